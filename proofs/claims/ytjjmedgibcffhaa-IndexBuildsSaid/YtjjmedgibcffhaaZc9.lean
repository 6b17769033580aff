/- Part 9 of the texts that stand behind this law. -/
import Derived.Test.YtjjmedgibcffhaaZc8
/- index.Check. -/
namespace Go.Proofs.Ytjjmedgibcffhaa
open Go.RowKit M
set_option linter.unusedSimpArgs false
set_option linter.unusedVariables false
def histBox (h : HistD) : Blk := .box [.d (strs h.keys), .d (.sl (h.txns.map encTxn))]
theorem errno_f : errnoOf false = 1 := rfl
theorem errno_t : errnoOf true = 0 := rfl
theorem size_zero {s : ByteArray} : s = ⟨#[]⟩ ↔ s.size = 0 := by
  constructor
  · rintro rfl; rfl
  · intro h
    obtain ⟨d⟩ := s
    have : d.size = 0 := h
    simpa using this
set_option maxHeartbeats 8000000 in
theorem check32 (h : HistD) (hh : HistOk h) : PureC Try.prog 32 [.d (encHist h)] (.d (.int .i64 (errnoOf (checkB h)))) := by
  intro S
  refine CallM.pure' (by rfl) (CallM.start (n := 86) Try.func32 rfl rfl (by simp) (by simp only [argL, Nat.reduceAdd] <;> rfl) ?_)
  intro hH
  obtain ⟨H, hHe⟩ : ∃ H, H = S.get := ⟨_, rfl⟩
  obtain ⟨n0, hne⟩ : ∃ n0, n0 = S.next := ⟨_, rfl⟩
  rw [← hHe, ← hne] at hH ⊢
  have hb := hh.b
  have hb1 := hb.keys
  have hb2 := hb.len
  ((repeat refine WpM.seq ?_); have z_ex := (And.intro @encHist.eq_1 True.intro); refine WpM.regPE [] [(1, _)] (by (refine s_o [(0, _)] rfl rfl rfl z_su rfl q_box z_fp z_ss ?_; refine s_o [] rfl rfl rfl z_su rfl q_move z_fp z_ss ?_; exact wpS_nil ⟨rfl, rfl⟩)) z_su ?_; clear z_ex)
  by_cases hk32 : 32 < h.keys.length
  · have hr : checkB h = false := by simp [checkB, namesB, Nat.not_le.2 hk32]
    rw [hr, errno_f]
    have hk32' : (32 : Int) < h.keys.length := by omega
    ((repeat refine WpM.seq ?_); have z_ex := (And.intro @hk32' True.intro); refine WpM.regPE [] [(1, _), (21, _)] (by (refine s_o [(1, _)] rfl rfl rfl z_su rfl q_fieldAddr z_fp z_ss ?_; refine s_o [(12, _)] rfl rfl rfl z_su rfl q_load z_fp z_ss ?_; refine s_o [(13, _)] rfl rfl rfl z_su rfl q_full z_fp z_ss ?_; refine s_o [(14, _)] rfl rfl rfl z_su rfl q_full z_fp z_ss ?_; refine s_o [(15, _)] rfl rfl rfl z_su rfl q_move z_fp z_ss ?_; refine s_wit ?_; intro z_g; (first | refine s_skip rfl z_g z_fp ?_ | (refine s_o [(1, _)] rfl z_g rfl z_su rfl q_fieldAddr z_fp z_ss ?_)); clear z_g; refine s_wit ?_; intro z_g; (first | refine s_skip rfl z_g z_fp ?_ | (refine s_o [(17, _)] rfl z_g rfl z_su rfl q_load z_fp z_ss ?_)); clear z_g; refine s_wit ?_; intro z_g; (first | refine s_skip rfl z_g z_fp ?_ | (refine s_o [(18, _)] rfl z_g rfl z_su rfl q_full z_fp z_ss ?_)); clear z_g; refine s_wit ?_; intro z_g; (first | refine s_skip rfl z_g z_fp ?_ | (refine s_o [(19, _)] rfl z_g rfl z_su rfl q_full z_fp z_ss ?_)); clear z_g; refine s_o [(16, _), (20, _)] rfl rfl rfl z_su rfl q_move z_fp z_ss ?_; exact wpS_nil ⟨rfl, rfl⟩)) z_su ?_; clear z_ex)
    ((repeat refine WpM.seq ?_); refine WpM.condT (by (simp (maxSteps := 2000000) (disch := omega) [go_sem, -List.map_map, hk32'])) ?_)
    ((repeat refine WpM.seq ?_); have z_ex := True.intro; refine WpM.regPE [] [(2, _)] (by (refine s_o [] rfl rfl rfl z_su rfl q_move z_fp z_ss ?_; exact wpS_nil ⟨rfl, rfl⟩)) z_su ?_; clear z_ex)
    refine WpM.ret ?_
    exact ⟨.inr rfl, Upd.done ⟨_, (by (simp (maxSteps := 2000000) (disch := omega) [go_sem, -List.map_map, resV, resVs, resV1])), rfl, fun m k _ hk => by have := hH _ _ hk; (simp (maxSteps := 2000000) (disch := omega) [go_sem, -List.map_map, hk])⟩⟩
  have hk32' : ¬ (32 : Int) < h.keys.length := by omega
  have hk32'' : (h.keys.length : Int) ≤ 32 := by omega
  by_cases ht32 : 32 < h.txns.length
  · have hr : checkB h = false := by simp [checkB, Nat.not_le.2 ht32]
    rw [hr, errno_f]
    have ht32' : (32 : Int) < h.txns.length := by omega
    ((repeat refine WpM.seq ?_); have z_ex := (And.intro @hk32' (And.intro @hk32'' (And.intro @ht32' True.intro))); refine WpM.regPE [] [(1, _), (21, _)] (by (refine s_o [(1, _)] rfl rfl rfl z_su rfl q_fieldAddr z_fp z_ss ?_; refine s_o [(12, _)] rfl rfl rfl z_su rfl q_load z_fp z_ss ?_; refine s_o [(13, _)] rfl rfl rfl z_su rfl q_full z_fp z_ss ?_; refine s_o [(14, _)] rfl rfl rfl z_su rfl q_full z_fp z_ss ?_; refine s_o [(15, _)] rfl rfl rfl z_su rfl q_move z_fp z_ss ?_; refine s_wit ?_; intro z_g; (first | refine s_skip rfl z_g z_fp ?_ | (refine s_o [(1, _)] rfl z_g rfl z_su rfl q_fieldAddr z_fp z_ss ?_)); clear z_g; refine s_wit ?_; intro z_g; (first | refine s_skip rfl z_g z_fp ?_ | (refine s_o [(17, _)] rfl z_g rfl z_su rfl q_load z_fp z_ss ?_)); clear z_g; refine s_wit ?_; intro z_g; (first | refine s_skip rfl z_g z_fp ?_ | (refine s_o [(18, _)] rfl z_g rfl z_su rfl q_full z_fp z_ss ?_)); clear z_g; refine s_wit ?_; intro z_g; (first | refine s_skip rfl z_g z_fp ?_ | (refine s_o [(19, _)] rfl z_g rfl z_su rfl q_full z_fp z_ss ?_)); clear z_g; refine s_o [(16, _), (20, _)] rfl rfl rfl z_su rfl q_move z_fp z_ss ?_; exact wpS_nil ⟨rfl, rfl⟩)) z_su ?_; clear z_ex)
    ((repeat refine WpM.seq ?_); refine WpM.condT (by (simp (maxSteps := 2000000) (disch := omega) [go_sem, -List.map_map, ht32'])) ?_)
    ((repeat refine WpM.seq ?_); have z_ex := True.intro; refine WpM.regPE [] [(2, _)] (by (refine s_o [] rfl rfl rfl z_su rfl q_move z_fp z_ss ?_; exact wpS_nil ⟨rfl, rfl⟩)) z_su ?_; clear z_ex)
    refine WpM.ret ?_
    exact ⟨.inr rfl, Upd.done ⟨_, (by (simp (maxSteps := 2000000) (disch := omega) [go_sem, -List.map_map, resV, resVs, resV1])), rfl, fun m k _ hk => by have := hH _ _ hk; (simp (maxSteps := 2000000) (disch := omega) [go_sem, -List.map_map, hk])⟩⟩
  have ht32' : ¬ (32 : Int) < h.txns.length := by omega
  have ht32'' : (h.txns.length : Int) ≤ 32 := by omega
  ((repeat refine WpM.seq ?_); have z_ex := (And.intro @hk32' (And.intro @hk32'' (And.intro @ht32' (And.intro @ht32'' True.intro)))); refine WpM.regPE [] [(1, _), (21, _)] (by (refine s_o [(1, _)] rfl rfl rfl z_su rfl q_fieldAddr z_fp z_ss ?_; refine s_o [(12, _)] rfl rfl rfl z_su rfl q_load z_fp z_ss ?_; refine s_o [(13, _)] rfl rfl rfl z_su rfl q_full z_fp z_ss ?_; refine s_o [(14, _)] rfl rfl rfl z_su rfl q_full z_fp z_ss ?_; refine s_o [(15, _)] rfl rfl rfl z_su rfl q_move z_fp z_ss ?_; refine s_wit ?_; intro z_g; (first | refine s_skip rfl z_g z_fp ?_ | (refine s_o [(1, _)] rfl z_g rfl z_su rfl q_fieldAddr z_fp z_ss ?_)); clear z_g; refine s_wit ?_; intro z_g; (first | refine s_skip rfl z_g z_fp ?_ | (refine s_o [(17, _)] rfl z_g rfl z_su rfl q_load z_fp z_ss ?_)); clear z_g; refine s_wit ?_; intro z_g; (first | refine s_skip rfl z_g z_fp ?_ | (refine s_o [(18, _)] rfl z_g rfl z_su rfl q_full z_fp z_ss ?_)); clear z_g; refine s_wit ?_; intro z_g; (first | refine s_skip rfl z_g z_fp ?_ | (refine s_o [(19, _)] rfl z_g rfl z_su rfl q_full z_fp z_ss ?_)); clear z_g; refine s_o [(16, _), (20, _)] rfl rfl rfl z_su rfl q_move z_fp z_ss ?_; exact wpS_nil ⟨rfl, rfl⟩)) z_su ?_; clear z_ex)
  ((repeat refine WpM.seq ?_); refine WpM.condF (by (simp (maxSteps := 2000000) (disch := omega) [go_sem, -List.map_map, ht32', ht32''])) ?_)
  refine WpM.skip ?_
  ((repeat refine WpM.seq ?_); have z_ex := True.intro; refine WpM.regPE [] [(1, _), (23, _), (24, _), (25, _)] (by (refine s_o [(1, _)] rfl rfl rfl z_su rfl q_fieldAddr z_fp z_ss ?_; refine s_o [(22, _)] rfl rfl rfl z_su rfl q_load z_fp z_ss ?_; refine s_o [(23, _)] rfl rfl rfl z_su rfl q_full z_fp z_ss ?_; refine s_o [] rfl rfl rfl z_su rfl q_move z_fp z_ss ?_; exact wpS_nil ⟨rfl, rfl⟩)) z_su ?_; clear z_ex)
  ((repeat refine WpM.seq ?_); refine WpM.block ?_)
  refine WpM.loop (fun (j : Nat) fr S => j ≤ h.keys.length ∧ (∀ i, i < j → nameB h.keys i = true) ∧ fr = frOf [(1, .ptr n0 0), (23, .d (strs h.keys)), (24, .d (.int .i64 h.keys.length)), (25, .d (.int .i64 j))] ∧ ∃ nx, n0 < nx ∧ S = ⟨nx, [(n0, some (histBox h))], H⟩) (fun j => h.keys.length - j) 0 (le_cut (n0 := n0) (l' := [(n0, some (histBox h))]) hH (by (simp (maxSteps := 2000000) (disch := omega) [go_sem, -List.map_map])) (Nat.le_refl _) (by (simp (maxSteps := 2000000) (disch := omega) [go_sem, -List.map_map, histBox, strs]))) (frLe_frOf (by (simp (maxSteps := 2000000) (disch := omega) [go_sem, -List.map_map, strs]))) ⟨by omega, by simp, rfl, n0 + 16, ?_, rfl⟩ ?_
  · omega
  rintro j fr S' ⟨hj, hall, rfl, nx, hnx, rfl⟩
  ((repeat refine WpM.seq ?_); have z_ex := True.intro; refine WpM.regPE [] [(1, _), (23, _), (24, _), (25, _), (26, _)] (by (refine s_o [(24, _), (25, _)] rfl rfl rfl z_su rfl q_full z_fp z_ss ?_; exact wpS_nil ⟨rfl, rfl⟩)) z_su ?_; clear z_ex)
  by_cases hlt : j < h.keys.length
  · ((repeat refine WpM.seq ?_); refine WpM.condT (by (simp (maxSteps := 2000000) (disch := omega) [go_sem, -List.map_map, hlt])) ?_)
    refine WpM.skip ?_
    ((repeat refine WpM.seq ?_); refine WpM.block ?_)
    have hnb := nameB_get hlt
    obtain ⟨s, hs⟩ : ∃ s, s = h.keys[j] := ⟨_, rfl⟩
    have hget : (h.keys.map D.str)[j]? = some (.str s) := by simp [hlt, hs]
    rw [← hs, findI_none] at hnb
    have hfind := contains52 (h.keys.take j) s (by simp; omega)
    obtain ⟨fi, hfi⟩ : ∃ fi, fi = findI (h.keys.take j) s := ⟨_, rfl⟩
    have hst : strs (h.keys.take j) = .sl ((h.keys.map D.str).take j) := by rw [strs, List.map_take]
    rw [hst] at hfind
    rw [← hfi] at hfind hnb
    have bad : nameB h.keys j = false → checkB h = false := fun hn => by rw [checkB, names_bad hlt hn]; rfl
    ((repeat refine WpM.seq ?_); have z_ex := (And.intro @strs.eq_1 (And.intro @hget (And.intro @hlt True.intro))); refine WpM.regPE [] [(1, _), (3, _), (4, _), (23, _), (24, _), (25, _)] (by (refine s_o [(25, _)] rfl rfl rfl z_su rfl q_move z_fp z_ss ?_; refine s_o [(23, _), (25, _)] rfl rfl rfl z_su rfl q_full z_fp z_ss ?_; refine s_o [(28, _)] rfl rfl rfl z_su rfl q_load z_fp z_ss ?_; refine s_o [(27, _)] rfl rfl rfl z_su rfl q_move z_fp z_ss ?_; refine s_o [(29, _)] rfl rfl rfl z_su rfl q_move z_fp z_ss ?_; exact wpS_nil ⟨rfl, rfl⟩)) z_su ?_; clear z_ex)
    by_cases h1 : s = ⟨#[]⟩
    · have h0 := size_zero.1 h1
      rw [bad (by rw [hnb]; simp; omega), errno_f]
      ((repeat refine WpM.seq ?_); have z_ex := (And.intro @h1 True.intro); refine WpM.regPE [] [(1, _), (23, _), (24, _), (25, _), (44, _)] (by (refine s_o [(4, _)] rfl rfl rfl z_su rfl q_move z_fp z_ss ?_; refine s_o [(30, _)] rfl rfl rfl z_su rfl q_full z_fp z_ss ?_; refine s_o [(31, _)] rfl rfl rfl z_su rfl q_move z_fp z_ss ?_; refine s_wit ?_; intro z_g; (first | refine s_skip rfl z_g z_fp ?_ | (refine s_o [(4, _)] rfl z_g rfl z_su rfl q_move z_fp z_ss ?_)); clear z_g; refine s_wit ?_; intro z_g; (first | refine s_skip rfl z_g z_fp ?_ | (refine s_o [(33, _)] rfl z_g rfl z_su rfl q_full z_fp z_ss ?_)); clear z_g; refine s_wit ?_; intro z_g; (first | refine s_skip rfl z_g z_fp ?_ | (refine s_o [(34, _)] rfl z_g rfl z_su rfl q_full z_fp z_ss ?_)); clear z_g; refine s_o [(32, _), (35, _)] rfl rfl rfl z_su rfl q_move z_fp z_ss ?_; refine s_o [(36, _)] rfl rfl rfl z_su rfl q_move z_fp z_ss ?_; refine s_wit ?_; intro z_g; (first | refine s_skip rfl z_g z_fp ?_ | (refine s_o [(1, _)] rfl z_g rfl z_su rfl q_fieldAddr z_fp z_ss ?_)); clear z_g; refine s_wit ?_; intro z_g; (first | refine s_skip rfl z_g z_fp ?_ | (refine s_o [(38, _)] rfl z_g rfl z_su rfl q_load z_fp z_ss ?_)); clear z_g; refine s_wit ?_; intro z_g; (first | refine s_skip rfl z_g z_fp ?_ | (refine s_o [(3, _)] rfl z_g rfl z_su rfl q_move z_fp z_ss ?_)); clear z_g; refine s_wit ?_; intro z_g; (first | refine s_skip rfl z_g z_fp ?_ | (refine s_o [(39, _), (40, _)] rfl z_g rfl z_su rfl q_full z_fp z_ss ?_)); clear z_g; refine s_wit ?_; intro z_g; (first | refine s_skip rfl z_g z_fp ?_ | (refine s_o [(4, _)] rfl z_g rfl z_su rfl q_move z_fp z_ss ?_)); clear z_g; refine s_wit ?_; intro z_g; (first | refine s_skip rfl z_g z_fp ?_ | (refine s_pure (callOf_eq rfl rfl rfl (mlk_tmp z_lk (mlk_tmp z_lk mlk_nil))) (?missing) rfl z_g z_ip z_fp ?_)); clear z_g; refine s_o [(37, _), (43, _)] rfl rfl rfl z_su rfl q_move z_fp z_ss ?_; exact wpS_nil ⟨rfl, rfl⟩)) z_su ?_; clear z_ex)
      ((repeat refine WpM.seq ?_); refine WpM.condT (by (simp (maxSteps := 2000000) (disch := omega) [go_sem, -List.map_map, h1])) ?_)
      ((repeat refine WpM.seq ?_); have z_ex := True.intro; refine WpM.regPE [] [(2, _)] (by (refine s_o [] rfl rfl rfl z_su rfl q_move z_fp z_ss ?_; exact wpS_nil ⟨rfl, rfl⟩)) z_su ?_; clear z_ex)
      refine WpM.ret ?_
      exact ⟨.inr rfl, Upd.done ⟨_, (by (simp (maxSteps := 2000000) (disch := omega) [go_sem, -List.map_map, resV, resVs, resV1])), rfl, fun m k _ hk => by have := hH _ _ hk; (simp (maxSteps := 2000000) (disch := omega) [go_sem, -List.map_map, hk])⟩⟩
    · have h0 : ¬ s.size = 0 := fun h0 => h1 (size_zero.2 h0)
      by_cases h2 : 32 < s.size
      · rw [bad (by rw [hnb]; simp; omega), errno_f]
        have h2' : (32 : Int) < s.size := by omega
        ((repeat refine WpM.seq ?_); have z_ex := (And.intro @h1 (And.intro @h2' True.intro)); refine WpM.regPE [] [(1, _), (23, _), (24, _), (25, _), (44, _)] (by (refine s_o [(4, _)] rfl rfl rfl z_su rfl q_move z_fp z_ss ?_; refine s_o [(30, _)] rfl rfl rfl z_su rfl q_full z_fp z_ss ?_; refine s_o [(31, _)] rfl rfl rfl z_su rfl q_move z_fp z_ss ?_; refine s_wit ?_; intro z_g; (first | refine s_skip rfl z_g z_fp ?_ | (refine s_o [(4, _)] rfl z_g rfl z_su rfl q_move z_fp z_ss ?_)); clear z_g; refine s_wit ?_; intro z_g; (first | refine s_skip rfl z_g z_fp ?_ | (refine s_o [(33, _)] rfl z_g rfl z_su rfl q_full z_fp z_ss ?_)); clear z_g; refine s_wit ?_; intro z_g; (first | refine s_skip rfl z_g z_fp ?_ | (refine s_o [(34, _)] rfl z_g rfl z_su rfl q_full z_fp z_ss ?_)); clear z_g; refine s_o [(32, _), (35, _)] rfl rfl rfl z_su rfl q_move z_fp z_ss ?_; refine s_o [(36, _)] rfl rfl rfl z_su rfl q_move z_fp z_ss ?_; refine s_wit ?_; intro z_g; (first | refine s_skip rfl z_g z_fp ?_ | (refine s_o [(1, _)] rfl z_g rfl z_su rfl q_fieldAddr z_fp z_ss ?_)); clear z_g; refine s_wit ?_; intro z_g; (first | refine s_skip rfl z_g z_fp ?_ | (refine s_o [(38, _)] rfl z_g rfl z_su rfl q_load z_fp z_ss ?_)); clear z_g; refine s_wit ?_; intro z_g; (first | refine s_skip rfl z_g z_fp ?_ | (refine s_o [(3, _)] rfl z_g rfl z_su rfl q_move z_fp z_ss ?_)); clear z_g; refine s_wit ?_; intro z_g; (first | refine s_skip rfl z_g z_fp ?_ | (refine s_o [(39, _), (40, _)] rfl z_g rfl z_su rfl q_full z_fp z_ss ?_)); clear z_g; refine s_wit ?_; intro z_g; (first | refine s_skip rfl z_g z_fp ?_ | (refine s_o [(4, _)] rfl z_g rfl z_su rfl q_move z_fp z_ss ?_)); clear z_g; refine s_wit ?_; intro z_g; (first | refine s_skip rfl z_g z_fp ?_ | (refine s_pure (callOf_eq rfl rfl rfl (mlk_tmp z_lk (mlk_tmp z_lk mlk_nil))) (?missing) rfl z_g z_ip z_fp ?_)); clear z_g; refine s_o [(37, _), (43, _)] rfl rfl rfl z_su rfl q_move z_fp z_ss ?_; exact wpS_nil ⟨rfl, rfl⟩)) z_su ?_; clear z_ex)
        ((repeat refine WpM.seq ?_); refine WpM.condT (by (simp (maxSteps := 2000000) (disch := omega) [go_sem, -List.map_map, h2'])) ?_)
        ((repeat refine WpM.seq ?_); have z_ex := True.intro; refine WpM.regPE [] [(2, _)] (by (refine s_o [] rfl rfl rfl z_su rfl q_move z_fp z_ss ?_; exact wpS_nil ⟨rfl, rfl⟩)) z_su ?_; clear z_ex)
        refine WpM.ret ?_
        exact ⟨.inr rfl, Upd.done ⟨_, (by (simp (maxSteps := 2000000) (disch := omega) [go_sem, -List.map_map, resV, resVs, resV1])), rfl, fun m k _ hk => by have := hH _ _ hk; (simp (maxSteps := 2000000) (disch := omega) [go_sem, -List.map_map, hk])⟩⟩
      · have h2' : ¬ (32 : Int) < s.size := by omega
        have h2'' : (s.size : Int) ≤ 32 := by omega
        by_cases h3 : 0 ≤ fi
        · rw [bad (by rw [hnb]; simp; omega), errno_f]
          ((repeat refine WpM.seq ?_); have z_ex := (And.intro @h1 (And.intro @h2' (And.intro @h2'' (And.intro @histBox.eq_1 (And.intro @strs.eq_1 (And.intro @hj (And.intro @h3 True.intro))))))); refine WpM.regPE [] [(1, _), (23, _), (24, _), (25, _), (44, _)] (by (refine s_o [(4, _)] rfl rfl rfl z_su rfl q_move z_fp z_ss ?_; refine s_o [(30, _)] rfl rfl rfl z_su rfl q_full z_fp z_ss ?_; refine s_o [(31, _)] rfl rfl rfl z_su rfl q_move z_fp z_ss ?_; refine s_wit ?_; intro z_g; (first | refine s_skip rfl z_g z_fp ?_ | (refine s_o [(4, _)] rfl z_g rfl z_su rfl q_move z_fp z_ss ?_)); clear z_g; refine s_wit ?_; intro z_g; (first | refine s_skip rfl z_g z_fp ?_ | (refine s_o [(33, _)] rfl z_g rfl z_su rfl q_full z_fp z_ss ?_)); clear z_g; refine s_wit ?_; intro z_g; (first | refine s_skip rfl z_g z_fp ?_ | (refine s_o [(34, _)] rfl z_g rfl z_su rfl q_full z_fp z_ss ?_)); clear z_g; refine s_o [(32, _), (35, _)] rfl rfl rfl z_su rfl q_move z_fp z_ss ?_; refine s_o [(36, _)] rfl rfl rfl z_su rfl q_move z_fp z_ss ?_; refine s_wit ?_; intro z_g; (first | refine s_skip rfl z_g z_fp ?_ | (refine s_o [(1, _)] rfl z_g rfl z_su rfl q_fieldAddr z_fp z_ss ?_)); clear z_g; refine s_wit ?_; intro z_g; (first | refine s_skip rfl z_g z_fp ?_ | (refine s_o [(38, _)] rfl z_g rfl z_su rfl q_load z_fp z_ss ?_)); clear z_g; refine s_wit ?_; intro z_g; (first | refine s_skip rfl z_g z_fp ?_ | (refine s_o [(3, _)] rfl z_g rfl z_su rfl q_move z_fp z_ss ?_)); clear z_g; refine s_wit ?_; intro z_g; (first | refine s_skip rfl z_g z_fp ?_ | (refine s_o [(39, _), (40, _)] rfl z_g rfl z_su rfl q_full z_fp z_ss ?_)); clear z_g; refine s_wit ?_; intro z_g; (first | refine s_skip rfl z_g z_fp ?_ | (refine s_o [(4, _)] rfl z_g rfl z_su rfl q_move z_fp z_ss ?_)); clear z_g; refine s_wit ?_; intro z_g; (first | refine s_skip rfl z_g z_fp ?_ | (refine s_pure (callOf_eq rfl rfl rfl (mlk_tmp z_lk (mlk_tmp z_lk mlk_nil))) (hfind) rfl z_g z_ip z_fp ?_)); clear z_g; refine s_o [(37, _), (43, _)] rfl rfl rfl z_su rfl q_move z_fp z_ss ?_; exact wpS_nil ⟨rfl, rfl⟩)) z_su ?_; clear z_ex)
          ((repeat refine WpM.seq ?_); refine WpM.condT (by (simp (maxSteps := 2000000) (disch := omega) [go_sem, -List.map_map, h3])) ?_)
          ((repeat refine WpM.seq ?_); have z_ex := True.intro; refine WpM.regPE [] [(2, _)] (by (refine s_o [] rfl rfl rfl z_su rfl q_move z_fp z_ss ?_; exact wpS_nil ⟨rfl, rfl⟩)) z_su ?_; clear z_ex)
          refine WpM.ret ?_
          exact ⟨.inr rfl, Upd.done ⟨_, (by (simp (maxSteps := 2000000) (disch := omega) [go_sem, -List.map_map, resV, resVs, resV1])), rfl, fun m k _ hk => by have := hH _ _ hk; (simp (maxSteps := 2000000) (disch := omega) [go_sem, -List.map_map, hk])⟩⟩
        · have h3' : fi < 0 := by omega
          ((repeat refine WpM.seq ?_); have z_ex := (And.intro @h1 (And.intro @h2' (And.intro @h2'' (And.intro @histBox.eq_1 (And.intro @strs.eq_1 (And.intro @hj (And.intro @h3' True.intro))))))); refine WpM.regPE [] [(1, _), (23, _), (24, _), (25, _), (44, _)] (by (refine s_o [(4, _)] rfl rfl rfl z_su rfl q_move z_fp z_ss ?_; refine s_o [(30, _)] rfl rfl rfl z_su rfl q_full z_fp z_ss ?_; refine s_o [(31, _)] rfl rfl rfl z_su rfl q_move z_fp z_ss ?_; refine s_wit ?_; intro z_g; (first | refine s_skip rfl z_g z_fp ?_ | (refine s_o [(4, _)] rfl z_g rfl z_su rfl q_move z_fp z_ss ?_)); clear z_g; refine s_wit ?_; intro z_g; (first | refine s_skip rfl z_g z_fp ?_ | (refine s_o [(33, _)] rfl z_g rfl z_su rfl q_full z_fp z_ss ?_)); clear z_g; refine s_wit ?_; intro z_g; (first | refine s_skip rfl z_g z_fp ?_ | (refine s_o [(34, _)] rfl z_g rfl z_su rfl q_full z_fp z_ss ?_)); clear z_g; refine s_o [(32, _), (35, _)] rfl rfl rfl z_su rfl q_move z_fp z_ss ?_; refine s_o [(36, _)] rfl rfl rfl z_su rfl q_move z_fp z_ss ?_; refine s_wit ?_; intro z_g; (first | refine s_skip rfl z_g z_fp ?_ | (refine s_o [(1, _)] rfl z_g rfl z_su rfl q_fieldAddr z_fp z_ss ?_)); clear z_g; refine s_wit ?_; intro z_g; (first | refine s_skip rfl z_g z_fp ?_ | (refine s_o [(38, _)] rfl z_g rfl z_su rfl q_load z_fp z_ss ?_)); clear z_g; refine s_wit ?_; intro z_g; (first | refine s_skip rfl z_g z_fp ?_ | (refine s_o [(3, _)] rfl z_g rfl z_su rfl q_move z_fp z_ss ?_)); clear z_g; refine s_wit ?_; intro z_g; (first | refine s_skip rfl z_g z_fp ?_ | (refine s_o [(39, _), (40, _)] rfl z_g rfl z_su rfl q_full z_fp z_ss ?_)); clear z_g; refine s_wit ?_; intro z_g; (first | refine s_skip rfl z_g z_fp ?_ | (refine s_o [(4, _)] rfl z_g rfl z_su rfl q_move z_fp z_ss ?_)); clear z_g; refine s_wit ?_; intro z_g; (first | refine s_skip rfl z_g z_fp ?_ | (refine s_pure (callOf_eq rfl rfl rfl (mlk_tmp z_lk (mlk_tmp z_lk mlk_nil))) (hfind) rfl z_g z_ip z_fp ?_)); clear z_g; refine s_o [(37, _), (43, _)] rfl rfl rfl z_su rfl q_move z_fp z_ss ?_; exact wpS_nil ⟨rfl, rfl⟩)) z_su ?_; clear z_ex)
          ((repeat refine WpM.seq ?_); refine WpM.condF (by (simp (maxSteps := 2000000) (disch := omega) [go_sem, -List.map_map, h3'])) ?_)
          refine WpM.skip ?_
          ((repeat refine WpM.seq ?_); have z_ex := (And.intro @wrap_id True.intro); refine WpM.regPE [] [(1, _), (23, _), (24, _), (25, _)] (by (refine s_o [(25, _)] rfl rfl rfl z_su rfl q_full z_fp z_ss ?_; refine s_o [(45, _)] rfl rfl rfl z_su rfl q_move z_fp z_ss ?_; exact wpS_nil ⟨rfl, rfl⟩)) z_su ?_; clear z_ex)
          have hall' : ∀ i, i < j + 1 → nameB h.keys i = true := fun i hi => by
            rcases Nat.lt_or_ge i j with h' | h'
            · exact hall i h'
            · obtain rfl : i = j := by omega
              rw [hnb]; simp [h3']; omega
          refine round_end (x' := j + 1) (St.Le.refl _) (Sub.le z_su) ⟨by omega, hall', rfl, _, ?_, rfl⟩ (by omega)
          show n0 < nx + _; omega
  · ((repeat refine WpM.seq ?_); refine WpM.condF (by (simp (maxSteps := 2000000) (disch := omega) [go_sem, -List.map_map, hlt])) ?_)
    (refine WpM.exit ?_; (repeat (with_reducible (first | refine thenM_exit ?_ | refine blockM_eq ?_ | refine blockM_ne (by decide) ?_))))
    obtain rfl : j = h.keys.length := by omega
    have hnm : namesB h.keys = true := by rw [names_good hall]; simp; omega
    clear hall hlt hj
    ((repeat refine WpM.seq ?_); have z_ex := True.intro; refine WpM.regP [] ?_; intro K hK; refine s_call (callOf_eq rfl rfl rfl mlk_nil) (new47 ⟨_, [(n0, some (histBox h))], H⟩) rfl rfl z_ip ?_; rintro _ z_S ⟨L, O, rfl, hLed, hO, hnx1, old⟩; refine s_put z_fp ?_; refine s_o [(46, _)] rfl rfl rfl z_su rfl q_move z_fp z_ss ?_; refine s_endE [(1, _), (5, _)] hK z_su ?_; clear hK K; clear z_ex)
    refine WpM.norm ?_
    intro nx1 G1 hnx2 hG1 hk1
    have hLed1 : LedAt G1 L Bk.empty O := by rw [hG1]; exact hLed
    have hO1 : ∀ m, O m → n0 < m ∧ m < nx1 := fun m hm => by
      have := hO m hm
      have h2 : nx1 = _ + 1 := hnx2
      have h3 : nx + 1 ≤ m := this.1
      omega
    have hn1 : n0 < nx1 := by have h2 : nx1 = _ + 1 := hnx2; have h3 : nx + 1 ≤ _ := hnx1; omega
    have hbx1 : G1 n0 = some (histBox h) := by rw [hG1]; exact old n0 _ (by (simp (maxSteps := 2000000) (disch := omega) [go_sem, -List.map_map]))
    have hold1 : ∀ m k, H m = some k → G1 m = some k := fun m k hk => by
      have := hH _ _ hk
      rw [hG1]
      exact old m k (by (simp (maxSteps := 2000000) (disch := omega) [go_sem, -List.map_map, hk]))
    clear hLed hO hnx1 old hnx2 hG1 hk1
    ((repeat refine WpM.seq ?_); have z_ex := (And.intro @hbx1 (And.intro @histBox.eq_1 True.intro)); refine WpM.regPE [] [(1, _), (5, _), (48, _), (49, _), (50, _)] (by (refine s_o [(1, _)] rfl rfl rfl z_su rfl q_fieldAddr z_fp z_ss ?_; refine s_o [(47, _)] rfl rfl rfl z_su rfl q_load z_fp z_ss ?_; refine s_o [(48, _)] rfl rfl rfl z_su rfl q_full z_fp z_ss ?_; refine s_o [] rfl rfl rfl z_su rfl q_move z_fp z_ss ?_; exact wpS_nil ⟨rfl, rfl⟩)) z_su ?_; clear z_ex)
    ((repeat refine WpM.seq ?_); refine WpM.block ?_)
    refine WpM.loop (fun (i : Nat) fr S => i ≤ h.txns.length ∧ ∃ nx G b O, S = ⟨nx, [], G⟩ ∧ checkSt h i = some b ∧ LedAt G L b O ∧ (∀ m, O m → n0 < m ∧ m < nx) ∧ n0 < nx ∧ G n0 = some (histBox h) ∧ (∀ m k, H m = some k → G m = some k) ∧ fr = frOf [(1, .ptr n0 0), (5, .ptr L 0), (48, .d (.sl (h.txns.map encTxn))), (49, .d (.int .i64 h.txns.length)), (50, .d (.int .i64 i))]) (fun i => h.txns.length - i) 0 (St.Le.refl _) (Sub.le z_su) ⟨by omega, _, G1, Bk.empty, O, rfl, rfl, hLed1, fun m hm => ⟨(hO1 m hm).1, ?_⟩, ?_, hbx1, hold1, rfl⟩ ?_
    · have := (hO1 m hm).2; show m < nx1 + _; omega
    · show n0 < nx1 + _; omega
    clear hLed1 hO1 hn1 hbx1 hold1
    rintro i fr S' ⟨hi, nx2, G, b, O, rfl, hst, hLed, hO, hn2, hbx, hold, rfl⟩
    refine WpM.known fun hGk => ?_
    have hGk : ∀ m k, G m = some k → m < nx2 := hGk
    ((repeat refine WpM.seq ?_); have z_ex := True.intro; refine WpM.regPE [] [(1, _), (5, _), (48, _), (49, _), (50, _), (51, _)] (by (refine s_o [(49, _), (50, _)] rfl rfl rfl z_su rfl q_full z_fp z_ss ?_; exact wpS_nil ⟨rfl, rfl⟩)) z_su ?_; clear z_ex)
    by_cases hit : i < h.txns.length
    · ((repeat refine WpM.seq ?_); refine WpM.condT (by (simp (maxSteps := 2000000) (disch := omega) [go_sem, -List.map_map, hit])) ?_)
      refine WpM.skip ?_
      ((repeat refine WpM.seq ?_); refine WpM.block ?_)
      obtain ⟨t, ht⟩ : ∃ t, t = h.txns[i] := ⟨_, rfl⟩
      have hget : (h.txns.map encTxn)[i]? = some (encTxn t) := by simp [hit, ht]
      have htok := hh.2.2 t (ht ▸ List.getElem_mem _)
      have hstep := stepT_get (b := b) hit
      rw [← ht] at hstep
      have hcalls := calls53 h hh t htok
      have hplaced := placed54 (h.txns.take i) (by simp; omega) t
      rw [List.map_take] at hplaced
      have htakes : (h.txns.map encTxn).take i = (h.txns.map encTxn).take i := rfl
      obtain ⟨ev, hev⟩ : ∃ ev, ev = evOf h.keys t := ⟨_, rfl⟩
      obtain ⟨ok, hok⟩ : ∃ ok, ok = evOkB h.keys t := ⟨_, rfl⟩
      obtain ⟨pl, hpl⟩ : ∃ pl, pl = placedB (h.txns.take i) t := ⟨_, rfl⟩
      rw [← hev, ← hok] at hcalls hstep
      rw [← hpl] at hplaced hstep
      ((repeat refine WpM.seq ?_); have z_ex := (And.intro @hget (And.intro @encTxn.eq_1 True.intro)); refine WpM.regPE [] [(1, _), (5, _), (6, _), (7, _), (48, _), (49, _), (50, _)] (by (refine s_o [(50, _)] rfl rfl rfl z_su rfl q_move z_fp z_ss ?_; refine s_o [(48, _), (50, _)] rfl rfl rfl z_su rfl q_full z_fp z_ss ?_; refine s_o [(53, _)] rfl rfl rfl z_su rfl q_load z_fp z_ss ?_; refine s_o [] rfl rfl rfl z_su rfl q_alloc z_fp z_ss ?_; refine s_o [(52, _)] rfl rfl rfl z_su rfl q_move z_fp z_ss ?_; refine s_o [(7, _), (54, _)] rfl rfl rfl z_su rfl q_store z_fp z_ss ?_; exact wpS_nil ⟨rfl, rfl⟩)) z_su ?_; clear z_ex)
      ((repeat refine WpM.seq ?_); have z_ex := (And.intro @hbx (And.intro @histBox.eq_1 (And.intro @encEvent.eq_1 True.intro))); refine WpM.regPE [] [(1, _), (5, _), (6, _), (7, _), (8, _), (9, _), (48, _), (49, _), (50, _)] (by (refine s_o [(1, _)] rfl rfl rfl z_su rfl q_load z_fp z_ss ?_; refine s_o [(7, _)] rfl rfl rfl z_su rfl q_load z_fp z_ss ?_; refine s_pure (callOf_eq rfl rfl rfl (mlk_tmp z_lk (mlk_tmp z_lk mlk_nil))) (hcalls) rfl rfl z_ip z_fp ?_; refine s_o [(58, _)] rfl rfl rfl z_su rfl q_move z_fp z_ss ?_; refine s_o [(55, _)] rfl rfl rfl z_su rfl q_extract z_fp z_ss ?_; refine s_o [(55, _)] rfl rfl rfl z_su rfl q_extract z_fp z_ss ?_; refine s_o [] rfl rfl rfl z_su rfl q_alloc z_fp z_ss ?_; refine s_o [(8, _), (59, _)] rfl rfl rfl z_su rfl q_store z_fp z_ss ?_; refine s_o [(60, _)] rfl rfl rfl z_su rfl q_move z_fp z_ss ?_; exact wpS_nil ⟨rfl, rfl⟩)) z_su ?_; clear z_ex)
      cases ok with
      | false =>
        rw [checkB_bad hit hst (by rw [hstep]; rfl), errno_f]
        ((repeat refine WpM.seq ?_); have z_ex := True.intro; refine WpM.drwPE [] [(1, _), (5, _), (6, _), (8, _), (48, _), (49, _), (50, _), (71, _)] mixed (by kernel_rfl) (by kernel_rfl) [] (by kernel_rfl) (by (refine d_o [(9, _)] rfl rfl rfl z_su rfl q_move z_fp z_ss rfl ?_; refine d_o [(61, _)] rfl rfl rfl z_su rfl q_unOp z_fp z_ss rfl ?_; refine d_o [(62, _)] rfl rfl rfl z_su rfl q_move z_fp z_ss rfl ?_; refine d_wit ?_; intro z_g; (first | refine d_skip rfl z_g z_fp ?_ | (refine d_o [(1, _)] rfl z_g rfl z_su rfl q_fieldAddr z_fp z_ss rfl ?_)); clear z_g; refine d_wit ?_; intro z_g; (first | refine d_skip rfl z_g z_fp ?_ | (refine d_o [(64, _)] rfl z_g rfl z_su rfl q_load z_fp z_ss rfl ?_)); clear z_g; refine d_wit ?_; intro z_g; (first | refine d_skip rfl z_g z_fp ?_ | (refine d_o [(6, _)] rfl z_g rfl z_su rfl q_move z_fp z_ss rfl ?_)); clear z_g; refine d_wit ?_; intro z_g; (first | refine d_skip rfl z_g z_fp ?_ | (refine d_o [(65, _), (66, _)] rfl z_g rfl z_su rfl q_full z_fp z_ss rfl ?_)); clear z_g; refine d_wit ?_; intro z_g; (first | refine d_skip rfl z_g z_fp ?_ | (refine d_o [(7, _)] rfl z_g rfl z_su rfl q_load z_fp z_ss rfl ?_)); clear z_g; refine d_wit ?_; intro z_g; (first | refine d_skip rfl z_g z_fp ?_ | (refine d_pure (callOf_eq rfl rfl rfl (mlk_tmp z_lk (mlk_tmp z_lk mlk_nil))) (?missing) rfl z_g z_ip rfl z_fp ?_)); clear z_g; refine d_wit ?_; intro z_g; (first | refine d_skip rfl z_g z_fp ?_ | (refine d_o [(69, _)] rfl z_g rfl z_su rfl q_unOp z_fp z_ss rfl ?_)); clear z_g; refine d_o [(63, _), (70, _)] rfl rfl rfl z_su rfl q_move z_fp z_ss rfl ?_; exact d_end z_mt z_sn)) z_su ?_; clear z_ex)
        ((repeat refine WpM.seq ?_); refine WpM.condT (by (simp (maxSteps := 2000000) (disch := omega) [go_sem, -List.map_map])) ?_)
        ((repeat refine WpM.seq ?_); have z_ex := True.intro; refine WpM.regPE [] [(2, _)] (by (refine s_o [] rfl rfl rfl z_su rfl q_move z_fp z_ss ?_; exact wpS_nil ⟨rfl, rfl⟩)) z_su ?_; clear z_ex)
        refine WpM.ret ?_
        exact ⟨.inr rfl, Upd.done ⟨_, (by (simp (maxSteps := 2000000) (disch := omega) [go_sem, -List.map_map, resV, resVs, resV1])), rfl, fun m k _ hk => by have h9 := hH _ _ hk; have h8 := hold m k hk; (simp (maxSteps := 2000000) (disch := omega) [go_sem, -List.map_map, h8])⟩⟩
      | true =>
        cases pl with
        | false =>
          rw [checkB_bad hit hst (by rw [hstep]; rfl), errno_f]
          ((repeat refine WpM.seq ?_); have z_ex := (And.intro @hbx (And.intro @histBox.eq_1 (And.intro @hi (And.intro @okEl_txn True.intro)))); refine WpM.drwPE [] [(1, _), (5, _), (6, _), (8, _), (48, _), (49, _), (50, _), (71, _)] mixed (by kernel_rfl) (by kernel_rfl) [] (by kernel_rfl) (by (refine d_o [(9, _)] rfl rfl rfl z_su rfl q_move z_fp z_ss rfl ?_; refine d_o [(61, _)] rfl rfl rfl z_su rfl q_unOp z_fp z_ss rfl ?_; refine d_o [(62, _)] rfl rfl rfl z_su rfl q_move z_fp z_ss rfl ?_; refine d_wit ?_; intro z_g; (first | refine d_skip rfl z_g z_fp ?_ | (refine d_o [(1, _)] rfl z_g rfl z_su rfl q_fieldAddr z_fp z_ss rfl ?_)); clear z_g; refine d_wit ?_; intro z_g; (first | refine d_skip rfl z_g z_fp ?_ | (refine d_o [(64, _)] rfl z_g rfl z_su rfl q_load z_fp z_ss rfl ?_)); clear z_g; refine d_wit ?_; intro z_g; (first | refine d_skip rfl z_g z_fp ?_ | (refine d_o [(6, _)] rfl z_g rfl z_su rfl q_move z_fp z_ss rfl ?_)); clear z_g; refine d_wit ?_; intro z_g; (first | refine d_skip rfl z_g z_fp ?_ | (refine d_o [(65, _), (66, _)] rfl z_g rfl z_su rfl q_full z_fp z_ss rfl ?_)); clear z_g; refine d_wit ?_; intro z_g; (first | refine d_skip rfl z_g z_fp ?_ | (refine d_o [(7, _)] rfl z_g rfl z_su rfl q_load z_fp z_ss rfl ?_)); clear z_g; refine d_wit ?_; intro z_g; (first | refine d_skip rfl z_g z_fp ?_ | (refine d_pure (callOf_eq rfl rfl rfl (mlk_tmp z_lk (mlk_tmp z_lk mlk_nil))) (hplaced) rfl z_g z_ip rfl z_fp ?_)); clear z_g; refine d_wit ?_; intro z_g; (first | refine d_skip rfl z_g z_fp ?_ | (refine d_o [(69, _)] rfl z_g rfl z_su rfl q_unOp z_fp z_ss rfl ?_)); clear z_g; refine d_o [(63, _), (70, _)] rfl rfl rfl z_su rfl q_move z_fp z_ss rfl ?_; exact d_end z_mt z_sn)) z_su ?_; clear z_ex)
          ((repeat refine WpM.seq ?_); refine WpM.condT (by (simp (maxSteps := 2000000) (disch := omega) [go_sem, -List.map_map])) ?_)
          ((repeat refine WpM.seq ?_); have z_ex := True.intro; refine WpM.regPE [] [(2, _)] (by (refine s_o [] rfl rfl rfl z_su rfl q_move z_fp z_ss ?_; exact wpS_nil ⟨rfl, rfl⟩)) z_su ?_; clear z_ex)
          refine WpM.ret ?_
          exact ⟨.inr rfl, Upd.done ⟨_, (by (simp (maxSteps := 2000000) (disch := omega) [go_sem, -List.map_map, resV, resVs, resV1])), rfl, fun m k _ hk => by have h9 := hH _ _ hk; have h8 := hold m k hk; (simp (maxSteps := 2000000) (disch := omega) [go_sem, -List.map_map, h8])⟩⟩
        | true =>
          ((repeat refine WpM.seq ?_); have z_ex := (And.intro @hbx (And.intro @histBox.eq_1 (And.intro @hi (And.intro @okEl_txn True.intro)))); refine WpM.drwPE [] [(1, _), (5, _), (6, _), (8, _), (48, _), (49, _), (50, _), (71, _)] mixed (by kernel_rfl) (by kernel_rfl) [] (by kernel_rfl) (by (refine d_o [(9, _)] rfl rfl rfl z_su rfl q_move z_fp z_ss rfl ?_; refine d_o [(61, _)] rfl rfl rfl z_su rfl q_unOp z_fp z_ss rfl ?_; refine d_o [(62, _)] rfl rfl rfl z_su rfl q_move z_fp z_ss rfl ?_; refine d_wit ?_; intro z_g; (first | refine d_skip rfl z_g z_fp ?_ | (refine d_o [(1, _)] rfl z_g rfl z_su rfl q_fieldAddr z_fp z_ss rfl ?_)); clear z_g; refine d_wit ?_; intro z_g; (first | refine d_skip rfl z_g z_fp ?_ | (refine d_o [(64, _)] rfl z_g rfl z_su rfl q_load z_fp z_ss rfl ?_)); clear z_g; refine d_wit ?_; intro z_g; (first | refine d_skip rfl z_g z_fp ?_ | (refine d_o [(6, _)] rfl z_g rfl z_su rfl q_move z_fp z_ss rfl ?_)); clear z_g; refine d_wit ?_; intro z_g; (first | refine d_skip rfl z_g z_fp ?_ | (refine d_o [(65, _), (66, _)] rfl z_g rfl z_su rfl q_full z_fp z_ss rfl ?_)); clear z_g; refine d_wit ?_; intro z_g; (first | refine d_skip rfl z_g z_fp ?_ | (refine d_o [(7, _)] rfl z_g rfl z_su rfl q_load z_fp z_ss rfl ?_)); clear z_g; refine d_wit ?_; intro z_g; (first | refine d_skip rfl z_g z_fp ?_ | (refine d_pure (callOf_eq rfl rfl rfl (mlk_tmp z_lk (mlk_tmp z_lk mlk_nil))) (hplaced) rfl z_g z_ip rfl z_fp ?_)); clear z_g; refine d_wit ?_; intro z_g; (first | refine d_skip rfl z_g z_fp ?_ | (refine d_o [(69, _)] rfl z_g rfl z_su rfl q_unOp z_fp z_ss rfl ?_)); clear z_g; refine d_o [(63, _), (70, _)] rfl rfl rfl z_su rfl q_move z_fp z_ss rfl ?_; exact d_end z_mt z_sn)) z_su ?_; clear z_ex)
          ((repeat refine WpM.seq ?_); refine WpM.condF (by (simp (maxSteps := 2000000) (disch := omega) [go_sem, -List.map_map])) ?_)
          refine WpM.skip ?_
          ((repeat refine WpM.seq ?_); have z_ex := True.intro; refine WpM.regPE [] [(1, _), (5, _), (6, _), (48, _), (49, _), (50, _), (73, _), (74, _), (75, _)] (by (refine s_o [(8, _)] rfl rfl rfl z_su rfl q_fieldAddr z_fp z_ss ?_; refine s_o [(72, _)] rfl rfl rfl z_su rfl q_load z_fp z_ss ?_; refine s_o [(73, _)] rfl rfl rfl z_su rfl q_full z_fp z_ss ?_; refine s_o [] rfl rfl rfl z_su rfl q_move z_fp z_ss ?_; exact wpS_nil ⟨rfl, rfl⟩)) z_su ?_; clear z_ex)
          have hevok : eventOk ev = true := by rw [hev]; rw [evOkB, ← hev] at hok; have := hok.symm; rw [Bool.and_eq_true] at this; rw [← hev]; exact this.2
          obtain ⟨_, _, hl16, hcok⟩ := eventOk_spec hevok
          have hwf0 := checkSt_wf hst
          ((repeat refine WpM.seq ?_); refine WpM.block ?_)
          refine WpM.loop (fun (k : Nat) fr S => k ≤ ev.calls.length ∧ ∃ nx G b3 O, S = ⟨nx, [], G⟩ ∧ enters b (ev.calls.take k) i = some b3 ∧ LedAt G L b3 O ∧ (∀ m, O m → n0 < m ∧ m < nx) ∧ n0 < nx ∧ G n0 = some (histBox h) ∧ (∀ m k, H m = some k → G m = some k) ∧ fr = frOf [(1, .ptr n0 0), (5, .ptr L 0), (6, .d (.int .i64 i)), (48, .d (.sl (h.txns.map encTxn))), (49, .d (.int .i64 h.txns.length)), (50, .d (.int .i64 i)), (73, .d (.sl (ev.calls.map encCall))), (74, .d (.int .i64 ev.calls.length)), (75, .d (.int .i64 k))]) (fun k => ev.calls.length - k) 0 (le_cut (n0 := nx2) (n' := nx2 + 30) (l' := []) hGk (by (simp (maxSteps := 2000000) (disch := omega) [go_sem, -List.map_map])) (Nat.le_refl _) (by (simp (maxSteps := 2000000) (disch := omega) [go_sem, -List.map_map]))) (Sub.le z_su) ⟨by omega, nx2 + 30, G, b, O, rfl, rfl, hLed, fun m hm => ⟨(hO m hm).1, by have := (hO m hm).2; omega⟩, by omega, hbx, hold, rfl⟩ ?_
          clear hLed hO hn2 hbx hold hGk
          rintro k fr S' ⟨hk, nx3, G, b3, O, rfl, hent, hLed, hO, hn3, hbx, hold, rfl⟩
          refine WpM.known fun hGk => ?_
          have hGk : ∀ m k, G m = some k → m < nx3 := hGk
          ((repeat refine WpM.seq ?_); have z_ex := True.intro; refine WpM.regPE [] [(1, _), (5, _), (6, _), (48, _), (49, _), (50, _), (73, _), (74, _), (75, _), (76, _)] (by (refine s_o [(74, _), (75, _)] rfl rfl rfl z_su rfl q_full z_fp z_ss ?_; exact wpS_nil ⟨rfl, rfl⟩)) z_su ?_; clear z_ex)
          by_cases hkt : k < ev.calls.length
          · ((repeat refine WpM.seq ?_); refine WpM.condT (by (simp (maxSteps := 2000000) (disch := omega) [go_sem, -List.map_map, hkt])) ?_)
            refine WpM.skip ?_
            ((repeat refine WpM.seq ?_); refine WpM.block ?_)
            obtain ⟨c, hc⟩ : ∃ c, c = ev.calls[k] := ⟨_, rfl⟩
            have hgetc : (ev.calls.map encCall)[k]? = some (encCall c) := by simp [hkt, hc]
            obtain ⟨hk1, hk8⟩ := callOk_kind (hcok c (hc ▸ List.getElem_mem _))
            have hnext := enters_take ev.calls b i k hkt b3 hent
            rw [← hc] at hnext
            have hwf3 := enters_wf _ hwf0 hent
            have hLed' : ∀ (nn nb : Nat) (q : Option Blk), nx3 ≤ nb → LedAt (St.get ⟨nn, [(nb, q)], G⟩) L b3 O := fun nn nb q hnb => hLed.same fun m k ho hk => by
              have := (hO m ho).2
              (simp (maxSteps := 2000000) (disch := omega) [go_sem, -List.map_map, hk])
            have hE := fun S h1 h2 => enter48 b3 _ hwf3 c hk1 hk8 i L O S h1 h2
            ((repeat refine WpM.seq ?_); have z_ex := (And.intro @hgetc (And.intro @encCall.eq_1 True.intro)); refine WpM.regPE [] [(1, _), (5, _), (6, _), (11, _), (48, _), (49, _), (50, _), (73, _), (74, _), (75, _)] (by (refine s_o [(73, _), (75, _)] rfl rfl rfl z_su rfl q_full z_fp z_ss ?_; refine s_o [(77, _)] rfl rfl rfl z_su rfl q_load z_fp z_ss ?_; refine s_o [] rfl rfl rfl z_su rfl q_alloc z_fp z_ss ?_; refine s_o [(11, _), (78, _)] rfl rfl rfl z_su rfl q_store z_fp z_ss ?_; exact wpS_nil ⟨rfl, rfl⟩)) z_su ?_; clear z_ex)
            cases he : enterB b3 c i with
            | error e =>
              rw [he] at hE hnext
              rw [checkB_bad hit hst (by rw [hstep]; exact enters_stop ev.calls b i (k + 1) hnext), errno_f]
              ((repeat refine WpM.seq ?_); have z_ex := (And.intro @encCall.eq_1 True.intro); refine WpM.regP [] ?_; intro K hK; refine s_o [(5, _)] rfl rfl rfl z_su rfl q_move z_fp z_ss ?_; refine s_o [(11, _)] rfl rfl rfl z_su rfl q_load z_fp z_ss ?_; refine s_o [(6, _)] rfl rfl rfl z_su rfl q_move z_fp z_ss ?_; refine s_call (callOf_eq rfl rfl rfl (mlk_tmp z_lk (mlk_tmp z_lk (mlk_tmp z_lk mlk_nil)))) (hE _ (hLed' _ _ _ (by omega)) (fun m hm => by have := (hO m hm).2; show m < nx3 + _; omega)) rfl rfl z_ip ?_; rintro _ z_S ⟨hnx, old, rfl, hne⟩; refine s_put z_fp ?_; refine s_o [(82, _)] rfl rfl rfl z_su rfl q_full z_fp z_ss ?_; refine s_endE [(1, _), (5, _), (6, _), (48, _), (49, _), (50, _), (73, _), (74, _), (75, _), (83, _)] hK z_su ?_; clear hK K; clear z_ex)
              ((repeat refine WpM.seq ?_); refine WpM.condT (by (simp (maxSteps := 2000000) (disch := omega) [go_sem, -List.map_map, hne])) ?_)
              ((repeat refine WpM.seq ?_); have z_ex := True.intro; refine WpM.regPE [] [(2, _)] (by (refine s_o [] rfl rfl rfl z_su rfl q_move z_fp z_ss ?_; exact wpS_nil ⟨rfl, rfl⟩)) z_su ?_; clear z_ex)
              refine WpM.ret ?_
              exact ⟨.inr rfl, Upd.done ⟨_, (by (simp (maxSteps := 2000000) (disch := omega) [go_sem, -List.map_map, resV, resVs, resV1])), rfl, fun m k _ hk => by have h9 := hH _ _ hk; have h8 := hold m k hk; exact old m k (fun h => by have := (hO m h).1; omega) (by have h7 := hGk m k h8; (simp (maxSteps := 2000000) (disch := omega) [go_sem, -List.map_map, h8]))⟩⟩
            | ok b4 =>
              rw [he] at hE hnext
              ((repeat refine WpM.seq ?_); have z_ex := (And.intro @encCall.eq_1 True.intro); refine WpM.regP [] ?_; intro K hK; refine s_o [(5, _)] rfl rfl rfl z_su rfl q_move z_fp z_ss ?_; refine s_o [(11, _)] rfl rfl rfl z_su rfl q_load z_fp z_ss ?_; refine s_o [(6, _)] rfl rfl rfl z_su rfl q_move z_fp z_ss ?_; refine s_call (callOf_eq rfl rfl rfl (mlk_tmp z_lk (mlk_tmp z_lk (mlk_tmp z_lk mlk_nil)))) (hE _ (hLed' _ _ _ (by omega)) (fun m hm => by have := (hO m hm).2; show m < nx3 + _; omega)) rfl rfl z_ip ?_; rintro _ z_S ⟨hnx, old, rfl, O4, hO4, hLed4⟩; refine s_put z_fp ?_; refine s_o [(82, _)] rfl rfl rfl z_su rfl q_full z_fp z_ss ?_; refine s_endE [(1, _), (5, _), (6, _), (48, _), (49, _), (50, _), (73, _), (74, _), (75, _), (83, _)] hK z_su ?_; clear hK K; clear z_ex)
              ((repeat refine WpM.seq ?_); refine WpM.condF (by (simp (maxSteps := 2000000) (disch := omega) [go_sem, -List.map_map])) ?_)
              refine WpM.skip ?_
              refine WpM.norm ?_
              intro nx4 G4 hnx4 hG4 hk4
              ((repeat refine WpM.seq ?_); have z_ex := (And.intro @wrap_id True.intro); refine WpM.regPE [] [(1, _), (5, _), (6, _), (48, _), (49, _), (50, _), (73, _), (74, _), (75, _)] (by (refine s_o [(75, _)] rfl rfl rfl z_su rfl q_full z_fp z_ss ?_; refine s_o [(84, _)] rfl rfl rfl z_su rfl q_move z_fp z_ss ?_; exact wpS_nil ⟨rfl, rfl⟩)) z_su ?_; clear z_ex)
              refine round_end (x' := k + 1) (St.Le.refl _) (Sub.le z_su) ⟨by omega, _, G4, b4, O4, rfl, hnext, by rw [hG4]; exact hLed4, fun m hm => ?_, ?_, ?_, fun m q hq => ?_, rfl⟩ (by omega)
              · obtain ⟨h1, h2⟩ := hO4 m hm
                have h3 : nx4 = _ + 1 := hnx4
                refine ⟨?_, by show m < nx4 + _; omega⟩
                rcases h1 with h1 | h1
                · exact (hO m h1).1
                · have h4 : nx3 + _ ≤ m := h1
                  omega
              · have h3 : nx4 = _ + 1 := hnx4
                have h4 : nx3 + _ ≤ _ := hnx
                show n0 < nx4 + _; omega
              · rw [hG4]
                exact old n0 _ (fun h => by have := (hO n0 h).1; omega) (by (simp (maxSteps := 2000000) (disch := omega) [go_sem, -List.map_map, hbx]))
              · have h8 := hold m q hq
                have h7 := hGk m q h8
                have h9 := hH m q hq
                rw [hG4]
                exact old m q (fun h => by have := (hO m h).1; omega) (by (simp (maxSteps := 2000000) (disch := omega) [go_sem, -List.map_map, h8]))
          · ((repeat refine WpM.seq ?_); refine WpM.condF (by (simp (maxSteps := 2000000) (disch := omega) [go_sem, -List.map_map, hkt])) ?_)
            (refine WpM.exit ?_; (repeat (with_reducible (first | refine thenM_exit ?_ | refine blockM_eq ?_ | refine blockM_ne (by decide) ?_))))
            obtain rfl : k = ev.calls.length := by omega
            rw [List.take_length] at hent
            ((repeat refine WpM.seq ?_); have z_ex := (And.intro @wrap_id True.intro); refine WpM.regPE [] [(1, _), (5, _), (48, _), (49, _), (50, _)] (by (refine s_o [(50, _)] rfl rfl rfl z_su rfl q_full z_fp z_ss ?_; refine s_o [(85, _)] rfl rfl rfl z_su rfl q_move z_fp z_ss ?_; exact wpS_nil ⟨rfl, rfl⟩)) z_su ?_; clear z_ex)
            refine round_end (x' := i + 1) (St.Le.refl _) (Sub.le z_su) ⟨by omega, _, G, b3, O, rfl, by rw [checkSt, hst]; exact hstep.trans hent, hLed, fun m hm => ⟨(hO m hm).1, ?_⟩, ?_, hbx, hold, rfl⟩ (by omega)
            · have := (hO m hm).2; show m < nx3 + _; omega
            · show n0 < nx3 + _; omega
    · ((repeat refine WpM.seq ?_); refine WpM.condF (by (simp (maxSteps := 2000000) (disch := omega) [go_sem, -List.map_map, hit])) ?_)
      (refine WpM.exit ?_; (repeat (with_reducible (first | refine thenM_exit ?_ | refine blockM_eq ?_ | refine blockM_ne (by decide) ?_))))
      obtain rfl : i = h.txns.length := by omega
      have hr : checkB h = true := by simp [checkB, hnm, hst]; omega
      rw [hr, errno_t]
      ((repeat refine WpM.seq ?_); have z_ex := True.intro; refine WpM.regPE [] [(2, _)] (by (refine s_o [] rfl rfl rfl z_su rfl q_move z_fp z_ss ?_; exact wpS_nil ⟨rfl, rfl⟩)) z_su ?_; clear z_ex)
      refine WpM.ret ?_
      exact ⟨.inr rfl, Upd.done ⟨_, (by (simp (maxSteps := 2000000) (disch := omega) [go_sem, -List.map_map, resV, resVs, resV1])), rfl, fun m k _ hk => by have h9 := hH _ _ hk; have h8 := hold m k hk; (simp (maxSteps := 2000000) (disch := omega) [go_sem, -List.map_map, h8])⟩⟩
end Go.Proofs.Ytjjmedgibcffhaa
/- How the reference's book lies in memory. -/
namespace Go.Proofs.Ytjjmedgibcffhaa
open Go.RowKit M
set_option linter.unusedSimpArgs false
set_option linter.unusedVariables false
def lastD (l : List Int) : Int := l.getLast?.getD (-1)
/-- The book at L holds b, by its names; O: the names it owns. -/
structure BookN (G : Nat → Option Blk) (L nk nt nw ni nl : Nat) (ws : List V) (r : Nat → Nat) (b : Bk) (O : Nat → Prop) : Prop where
  box : G L = some (.box [.ms nk 1 0 b.keys.length, .ms nt 1 0 b.types.length, .ms nw 1 0 b.wrote.length, .ms ni 1 0 b.incs.length, .ms nl 1 0 b.incs.length])
  keys : G nk = some (.row 1 (b.keys.map fun s => .d (.str s)))
  types : G nt = some (.row 1 (b.types.map fun t => .d (.int .i64 t)))
  wr : G nw = some (.row 1 ws)
  incs : G ni = some (.row 1 (b.incs.map fun l => .d (.int .i64 l.length)))
  last : G nl = some (.row 1 (b.incs.map fun l => .d (.int .i64 (lastD l))))
  wlen : ws.length = b.wrote.length
  w0 : ∀ k, k < ws.length → b.wrote.getD k [] = [] → ws[k]? = some (.d .nil)
  w1 : ∀ k, b.wrote.getD k [] ≠ [] → ws[k]? = some (.ms (r k) 1 0 (b.wrote.getD k []).length) ∧ G (r k) = some (.row 1 ((b.wrote.getD k []).map fun t => .d (.int .i64 t))) ∧ O (r k) ∧ r k ≠ nk ∧ r k ≠ nt ∧ r k ≠ nw ∧ r k ≠ ni ∧ r k ≠ nl
  rinj : ∀ s s', b.wrote.getD s [] ≠ [] → b.wrote.getD s' [] ≠ [] → r s = r s' → s = s'
  oL : O L
  ok : O nk
  ot : O nt
  ow : O nw
  oi : O ni
  ol : O nl
  ne : nk ≠ nt ∧ nk ≠ nw ∧ nk ≠ ni ∧ nk ≠ nl ∧ nt ≠ nw ∧ nt ≠ ni ∧ nt ≠ nl ∧ nw ≠ ni ∧ nw ≠ nl ∧ ni ≠ nl
def BookAt (G : Nat → Option Blk) (L : Nat) (b : Bk) (O : Nat → Prop) : Prop := ∃ nk nt nw ni nl ws r, BookN G L nk nt nw ni nl ws r b O
theorem BookAt.same {G G' : Nat → Option Blk} {L : Nat} {b : Bk} {O : Nat → Prop} (h : BookAt G L b O) (hs : ∀ m k, O m → G m = some k → G' m = some k) : BookAt G' L b O := by
  obtain ⟨nk, nt, nw, ni, nl, ws, r, h⟩ := h
  exact ⟨nk, nt, nw, ni, nl, ws, r, hs _ _ h.oL h.box, hs _ _ h.ok h.keys, hs _ _ h.ot h.types, hs _ _ h.ow h.wr, hs _ _ h.oi h.incs, hs _ _ h.ol h.last, h.wlen, h.w0,
    fun s hn => ⟨(h.w1 s hn).1, hs _ _ (h.w1 s hn).2.2.1 (h.w1 s hn).2.1, (h.w1 s hn).2.2⟩, h.rinj, h.oL, h.ok, h.ot, h.ow, h.oi, h.ol, h.ne⟩
section
variable {G G' : Nat → Option Blk} {L nk nt nw ni nl : Nat} {ws : List V} {r : Nat → Nat} {b : Bk} {O : Nat → Prop}
theorem BookN.box_ne (h : BookN G L nk nt nw ni nl ws r b O) : L ≠ nk ∧ L ≠ nt ∧ L ≠ nw ∧ L ≠ ni ∧ L ≠ nl ∧ ∀ s, b.wrote.getD s [] ≠ [] → r s ≠ L := by
  have k1 := h.box
  have k2 := h.keys
  have k3 := h.types
  have k4 := h.wr
  have k5 := h.incs
  have k6 := h.last
  refine ⟨?_, ?_, ?_, ?_, ?_, fun s hs => ?_⟩
  · rintro rfl; rw [k1] at k2; cases k2
  · rintro rfl; rw [k1] at k3; cases k3
  · rintro rfl; rw [k1] at k4; cases k4
  · rintro rfl; rw [k1] at k5; cases k5
  · rintro rfl; rw [k1] at k6; cases k6
  · obtain ⟨_, hr, _⟩ := h.w1 s hs
    intro e
    rw [e, k1] at hr
    cases hr
theorem BookN.push {n nk' nt' nw' ni' nl' : Nat} {c : CallD} (h : BookN G L nk nt nw ni nl ws r b O) (hw : b.Wf n) (h1 : ¬ O nk') (h2 : ¬ O nt') (h3 : ¬ O nw') (h4 : ¬ O ni') (h5 : ¬ O nl')
    (hne : nk' ≠ nt' ∧ nk' ≠ nw' ∧ nk' ≠ ni' ∧ nk' ≠ nl' ∧ nt' ≠ nw' ∧ nt' ≠ ni' ∧ nt' ≠ nl' ∧ nw' ≠ ni' ∧ nw' ≠ nl' ∧ ni' ≠ nl')
    (e1 : G' L = some (.box [.ms nk' 1 0 (b.keys.length + 1), .ms nt' 1 0 (b.types.length + 1), .ms nw' 1 0 (b.wrote.length + 1), .ms ni' 1 0 (b.incs.length + 1), .ms nl' 1 0 (b.incs.length + 1)]))
    (e2 : G' nk' = some (.row 1 ((b.keys.map fun s => .d (.str s)) ++ [.d (.str c.key)]))) (e3 : G' nt' = some (.row 1 ((b.types.map fun s => .d (.int .i64 s)) ++ [.d (.int .i64 (tyOf c.kind))])))
    (e4 : G' nw' = some (.row 1 (ws ++ [.d .nil]))) (e5 : G' ni' = some (.row 1 ((b.incs.map fun l => .d (.int .i64 l.length)) ++ [.d (.int .i64 0)]))) (e6 : G' nl' = some (.row 1 ((b.incs.map fun l => .d (.int .i64 (lastD l))) ++ [.d (.int .i64 (-1))])))
    (old : ∀ m k, m ≠ L → m ≠ nk → m ≠ nt → m ≠ nw → m ≠ ni → m ≠ nl → O m → G m = some k → G' m = some k) : BookAt G' L (b.push c) (fun m => O m ∨ m = nk' ∨ m = nt' ∨ m = nw' ∨ m = ni' ∨ m = nl') := by
  obtain ⟨q1, q2, q3, q4, q5, q6⟩ := h.box_ne
  have hwl := h.wlen
  refine ⟨nk', nt', nw', ni', nl', ws ++ [.d .nil], r, by rw [e1]; simp [Bk.push], by rw [e2]; simp [Bk.push], by rw [e3]; simp [Bk.push], e4, by rw [e5]; simp [Bk.push], by rw [e6]; simp [Bk.push, lastD], by simp [Bk.push, hwl], fun k hk he => ?_, fun k hk => ?_, fun s s' hs hs' => ?_, .inl h.oL, by simp, by simp, by simp, by simp, by simp, hne⟩
  · simp only [Bk.push, getD_push] at he
    rcases Nat.lt_or_ge k ws.length with hl | hl
    · rw [List.getElem?_append_left hl]; exact h.w0 k hl he
    · obtain rfl : k = ws.length := by simp at hk; omega
      simp
  · simp only [Bk.push, getD_push] at hk ⊢
    obtain ⟨a1, a2, a3, a4, a5, a6, a7, a8⟩ := h.w1 k hk
    have hl : k < ws.length := (List.getElem?_eq_some_iff.1 a1).1
    exact ⟨by rw [List.getElem?_append_left hl]; exact a1, old _ _ (q6 k hk) a4 a5 a6 a7 a8 a3 a2, .inl a3, fun e => h1 (e ▸ a3), fun e => h2 (e ▸ a3), fun e => h3 (e ▸ a3), fun e => h4 (e ▸ a3), fun e => h5 (e ▸ a3)⟩
  · simp only [Bk.push, getD_push] at hs hs'; exact h.rinj s s' hs hs'
theorem BookN.wrote {n k nr : Nat} {x : Int} (h : BookN G L nk nt nw ni nl ws r b O) (hw : b.Wf n) (hk : k < b.wrote.length) (hnr : ¬ O nr)
    (e1 : G' nw = some (.row 1 (ws.set k (.ms nr 1 0 ((b.wrote.getD k []).length + 1))))) (e2 : G' nr = some (.row 1 (((b.wrote.getD k []).map fun t => .d (.int .i64 t)) ++ [.d (.int .i64 x)])))
    (old : ∀ m q, m ≠ nw → (b.wrote.getD k [] ≠ [] → m ≠ r k) → O m → G m = some q → G' m = some q) :
    BookAt G' L { b with wrote := b.wrote.set k (b.wrote.getD k [] ++ [x]) } (fun m => O m ∨ m = nr) := by
  obtain ⟨q1, q2, q3, q4, q5, q6⟩ := h.box_ne
  obtain ⟨a1, a2, a3, a4, a5, a6, a7, a8, a9, a10⟩ := h.ne
  have hwl := h.wlen
  refine ⟨nk, nt, nw, ni, nl, _, fun s => if s = k then nr else r s, ?_, ?_, ?_, e1, ?_, ?_, by simp [hwl], fun j hj he => ?_, fun j hj => ?_, fun s s' hs hs' => ?_, .inl h.oL, .inl h.ok, .inl h.ot, .inl h.ow, .inl h.oi, .inl h.ol, h.ne⟩
  · rw [old _ _ q3 (fun hs e => q6 _ hs e.symm) h.oL h.box]; simp
  · exact old _ _ a2 (fun hs e => (h.w1 _ hs).2.2.2.1 e.symm) h.ok h.keys
  · exact old _ _ a5 (fun hs e => (h.w1 _ hs).2.2.2.2.1 e.symm) h.ot h.types
  · exact old _ _ (Ne.symm a8) (fun hs e => (h.w1 _ hs).2.2.2.2.2.2.1 e.symm) h.oi h.incs
  · exact old _ _ (Ne.symm a9) (fun hs e => (h.w1 _ hs).2.2.2.2.2.2.2 e.symm) h.ol h.last
  · simp only [getD_set, hk, and_true] at he
    by_cases e : j = k
    · rw [if_pos e] at he; simp at he
    · rw [if_neg e] at he
      rw [List.getElem?_set, if_neg (fun e' => e e'.symm)]
      exact h.w0 j (by simpa using hj) he
  · simp only [getD_set, hk, and_true] at hj ⊢
    by_cases e : j = k
    · simp only [if_pos e]
      refine ⟨by rw [e, List.getElem?_set]; simp [hwl, hk], by rw [e2]; simp, by simp, fun e => hnr (e ▸ h.ok), fun e => hnr (e ▸ h.ot), fun e => hnr (e ▸ h.ow), fun e => hnr (e ▸ h.oi), fun e => hnr (e ▸ h.ol)⟩
    · rw [if_neg e] at hj
      simp only [if_neg e]
      obtain ⟨b1, b2, b3, b4, b5, b6, b7, b8⟩ := h.w1 j hj
      exact ⟨by rw [List.getElem?_set, if_neg (fun e' => e e'.symm)]; exact b1, old _ _ b6 (fun hs e' => e (h.rinj _ _ hj hs e')) b3 b2, .inl b3, b4, b5, b6, b7, b8⟩
  · simp only [getD_set, hk, and_true] at hs hs'
    by_cases e : s = k
    · by_cases e' : s' = k
      · intro _; rw [e, e']
      · rw [if_neg e'] at hs'
        simp only [if_pos e, if_neg e']
        intro he
        exact absurd (h.w1 s' hs').2.2.1 (he ▸ hnr)
    · rw [if_neg e] at hs
      by_cases e' : s' = k
      · simp only [if_pos e', if_neg e]
        intro he
        exact absurd (h.w1 s hs).2.2.1 (he ▸ hnr)
      · rw [if_neg e'] at hs'
        simp only [if_neg e', if_neg e]
        exact h.rinj s s' hs hs'
theorem BookN.inc {n k : Nat} {x : Int} (h : BookN G L nk nt nw ni nl ws r b O) (hw : b.Wf n)
    (e1 : G' ni = some (.row 1 ((b.incs.map fun l => V.d (.int .i64 l.length)).set k (.d (.int .i64 ((b.incs.getD k []).length + 1))))))
    (e2 : G' nl = some (.row 1 ((b.incs.map fun l => V.d (.int .i64 (lastD l))).set k (.d (.int .i64 x)))))
    (old : ∀ m q, m ≠ ni → m ≠ nl → O m → G m = some q → G' m = some q) :
    BookAt G' L { b with incs := b.incs.set k (b.incs.getD k [] ++ [x]) } O := by
  obtain ⟨q1, q2, q3, q4, q5, q6⟩ := h.box_ne
  obtain ⟨a1, a2, a3, a4, a5, a6, a7, a8, a9, a10⟩ := h.ne
  refine ⟨nk, nt, nw, ni, nl, ws, r, ?_, ?_, ?_, ?_, ?_, ?_, h.wlen, h.w0, fun j hj => ?_, h.rinj, h.oL, h.ok, h.ot, h.ow, h.oi, h.ol, h.ne⟩
  · rw [old _ _ q4 q5 h.oL h.box]; simp
  · exact old _ _ a3 a4 h.ok h.keys
  · exact old _ _ a6 a7 h.ot h.types
  · exact old _ _ a8 a9 h.ow h.wr
  · rw [e1, List.map_set]; simp
  · rw [e2, List.map_set]; simp [lastD]
  · obtain ⟨b1, b2, b3, b4, b5, b6, b7, b8⟩ := h.w1 j hj
    exact ⟨b1, old _ _ b7 b8 b3 b2, b3, b4, b5, b6, b7, b8⟩
end
end Go.Proofs.Ytjjmedgibcffhaa
/- assizeref05.(*book).enter. -/
namespace Go.Proofs.Ytjjmedgibcffhaa
open Go.RowKit M
set_option linter.unusedSimpArgs false
set_option linter.unusedVariables false
set_option maxHeartbeats 8000000 in
theorem find51m (l : List ByteArray) (s : ByteArray) (hl : l.length ≤ 140737488351232) (nk : Nat) (S : St) (hS : S.get nk = some (.row 1 (l.map fun s => .d (.str s)))) : PureS Try.prog 51 [.ms nk 1 0 l.length, .d (.str s)] (.d (.int .i64 (findI l s))) S := by
  refine PureS.of (n := 19) Try.func51 rfl rfl (by simp) (by simp only [argL, Nat.reduceAdd] <;> rfl) rfl ?_
  intro n0 H hH0 hH
  rw [hH0] at hS
  ((repeat refine WpM.seq ?_); have z_ex := True.intro; refine WpM.regPE [] [(0, _), (1, _)] (by (refine s_o [] rfl rfl rfl z_su rfl q_move z_fp z_ss ?_; exact wpS_nil ⟨rfl, rfl⟩)) z_su ?_; clear z_ex)
  ((repeat refine WpM.seq ?_); have z_ex := True.intro; refine WpM.regPE [] [(0, _), (1, _), (5, _)] (by (refine s_o [] rfl rfl rfl z_su rfl q_move z_fp z_ss ?_; exact wpS_nil ⟨rfl, rfl⟩)) z_su ?_; clear z_ex)
  ((repeat refine WpM.seq ?_); refine WpM.block ?_)
  refine WpM.loop (fun (j : Nat) fr S => j ≤ l.length ∧ (∀ i (h : i < l.length), i < j → l[i] ≠ s) ∧ fr = frOf [(0, .ms nk 1 0 l.length), (1, .d (.str s)), (5, .d (.int .i64 j))] ∧ ∃ nx, S = ⟨nx, [], H⟩) (fun j => l.length - j) 0 (St.Le.refl _) (frLe_frOf (by (simp (maxSteps := 2000000) (disch := omega) [go_sem, -List.map_map]))) ⟨by omega, by simp, rfl, _, rfl⟩ ?_
  rintro j fr S' ⟨hj, hall, rfl, nx, rfl⟩
  ((repeat refine WpM.seq ?_); have z_ex := True.intro; refine WpM.regPE [] [(0, _), (1, _), (5, _), (9, _)] (by (refine s_o [(5, _)] rfl rfl rfl z_su rfl q_move z_fp z_ss ?_; refine s_o [(0, _)] rfl rfl rfl z_su rfl q_move z_fp z_ss ?_; refine s_o [(7, _)] rfl rfl rfl z_su rfl q_full z_fp z_ss ?_; refine s_o [(6, _), (8, _)] rfl rfl rfl z_su rfl q_full z_fp z_ss ?_; exact wpS_nil ⟨rfl, rfl⟩)) z_su ?_; clear z_ex)
  by_cases hlt : j < l.length
  · ((repeat refine WpM.seq ?_); refine WpM.condT (by (simp (maxSteps := 2000000) (disch := omega) [go_sem, -List.map_map, hlt])) ?_)
    refine WpM.skip ?_
    ((repeat refine WpM.seq ?_); refine WpM.block ?_)
    have hget : (l.map fun s => V.d (.str s))[j]? = some (.d (.str l[j])) := by simp [hlt]
    ((repeat refine WpM.seq ?_); have z_ex := (And.intro @hS (And.intro @hget (And.intro @hlt True.intro))); refine WpM.regPE [] [(0, _), (1, _), (5, _), (17, _)] (by (refine s_o [(0, _)] rfl rfl rfl z_su rfl q_move z_fp z_ss ?_; refine s_o [(5, _)] rfl rfl rfl z_su rfl q_move z_fp z_ss ?_; refine s_o [(12, _), (13, _)] rfl rfl rfl z_su rfl q_full z_fp z_ss ?_; refine s_o [(14, _)] rfl rfl rfl z_su rfl q_load z_fp z_ss ?_; refine s_o [(1, _)] rfl rfl rfl z_su rfl q_move z_fp z_ss ?_; refine s_o [(15, _), (16, _)] rfl rfl rfl z_su rfl q_full z_fp z_ss ?_; exact wpS_nil ⟨rfl, rfl⟩)) z_su ?_; clear z_ex)
    by_cases he : l[j] = s
    · ((repeat refine WpM.seq ?_); refine WpM.condT (by (simp (maxSteps := 2000000) (disch := omega) [go_sem, -List.map_map, he])) ?_)
      ((repeat refine WpM.seq ?_); have z_ex := True.intro; refine WpM.regPE [] [(4, _)] (by (refine s_o [(5, _)] rfl rfl rfl z_su rfl q_move z_fp z_ss ?_; refine s_o [(18, _)] rfl rfl rfl z_su rfl q_move z_fp z_ss ?_; exact wpS_nil ⟨rfl, rfl⟩)) z_su ?_; clear z_ex)
      have hf : findI l s = j := by rw [findI, findN_hit l s j hlt hall he]
      (refine WpM.ret ?_; refine ⟨.inr rfl, Upd.done ?_⟩; (simp (maxSteps := 2000000) (disch := omega) [go_sem, -List.map_map, resV, resVs, resV1, hf]))
    · ((repeat refine WpM.seq ?_); refine WpM.condF (by (simp (maxSteps := 2000000) (disch := omega) [go_sem, -List.map_map, he])) ?_)
      refine WpM.skip ?_
      ((repeat refine WpM.seq ?_); have z_ex := (And.intro @wrap_id True.intro); refine WpM.regPE [] [(0, _), (1, _), (5, _)] (by (refine s_o [(5, _)] rfl rfl rfl z_su rfl q_move z_fp z_ss ?_; refine s_o [(10, _)] rfl rfl rfl z_su rfl q_full z_fp z_ss ?_; refine s_o [(11, _)] rfl rfl rfl z_su rfl q_move z_fp z_ss ?_; exact wpS_nil ⟨rfl, rfl⟩)) z_su ?_; clear z_ex)
      have hall' : ∀ i (h : i < l.length), i < j + 1 → l[i] ≠ s := fun i h hi => by
        rcases Nat.lt_or_ge i j with h' | h'
        · exact hall i h h'
        · obtain rfl : i = j := by omega
          exact he
      exact round_end (x' := j + 1) (St.Le.refl _) (frLe_frOf (by (simp (maxSteps := 2000000) (disch := omega) [go_sem, -List.map_map, wrap_id]))) ⟨by omega, hall', rfl, _, rfl⟩ (by omega)
  · ((repeat refine WpM.seq ?_); refine WpM.condF (by (simp (maxSteps := 2000000) (disch := omega) [go_sem, -List.map_map, hlt])) ?_)
    (refine WpM.exit ?_; (repeat (with_reducible (first | refine thenM_exit ?_ | refine blockM_eq ?_ | refine blockM_ne (by decide) ?_))))
    obtain rfl : j = l.length := by omega
    have hf : findI l s = -1 := by rw [findI, findN_no l s fun h => by obtain ⟨i, hi, e⟩ := List.getElem_of_mem h; exact hall i hi hi e]
    ((repeat refine WpM.seq ?_); have z_ex := True.intro; refine WpM.regPE [] [(4, _)] (by (refine s_o [] rfl rfl rfl z_su rfl q_move z_fp z_ss ?_; exact wpS_nil ⟨rfl, rfl⟩)) z_su ?_; clear z_ex)
    (refine WpM.ret ?_; refine ⟨.inr rfl, Upd.done ?_⟩; (simp (maxSteps := 2000000) (disch := omega) [go_sem, -List.map_map, resV, resVs, resV1, hf]))
set_option maxHeartbeats 8000000 in
theorem enter50 (b : Bk) (n : Nat) (hn : n ≤ 1000000) (hw : b.Wf n) (c : CallD) (hk1 : 1 ≤ c.kind) (hk8 : c.kind ≤ 8) (who : Int) (hwho : 0 ≤ who) (L : Nat) (O : Nat → Prop) (S : St) (hL : BookAt S.get L b O) (hO : ∀ m, O m → m < S.next) :
    CallM Try.prog 50 [.ptr L 0, .d (encCall c), .d (.int .i64 who)] S fun r S' => EntP BookAt S.next S.get L O (enterB b c who) r S' := by
  refine CallM.start (n := 178) Try.func50 rfl rfl (by simp) (by simp only [argL, Nat.reduceAdd] <;> rfl) ?_
  intro hH
  obtain ⟨H, hHe⟩ : ∃ H, H = S.get := ⟨_, rfl⟩
  obtain ⟨n0, hne⟩ : ∃ n0, n0 = S.next := ⟨_, rfl⟩
  rw [← hHe, ← hne] at hH ⊢
  rw [← hHe] at hL
  rw [← hne] at hO
  obtain ⟨nk, nt, nw, ni, nl, ws, r, hN⟩ := hL
  obtain ⟨q1, q2, q3, q4, q5, q6⟩ := hN.box_ne
  obtain ⟨a1, a2, a3, a4, a5, a6, a7, a8, a9, a10⟩ := hN.ne
  have gL : L < n0 := hO _ hN.oL
  have gk : nk < n0 := hO _ hN.ok
  have gt : nt < n0 := hO _ hN.ot
  have gw : nw < n0 := hO _ hN.ow
  have gi : ni < n0 := hO _ hN.oi
  have gl : nl < n0 := hO _ hN.ol
  have k1 := hN.box
  have k2 := hN.keys
  have hkl := hw.keys
  have hfi := fun S h => find51m b.keys c.key (by omega) nk S h
  ((repeat refine WpM.seq ?_); have z_ex := (And.intro @encCall.eq_1 True.intro); refine WpM.regPE [] [(0, _), (2, _), (4, _)] (by (refine s_o [(1, _)] rfl rfl rfl z_su rfl q_box z_fp z_ss ?_; refine s_o [] rfl rfl rfl z_su rfl q_move z_fp z_ss ?_; exact wpS_nil ⟨rfl, rfl⟩)) z_su ?_; clear z_ex)
  ((repeat refine WpM.seq ?_); have z_ex := (And.intro @k1 (And.intro @k2 True.intro)); refine WpM.drwPE [] [(0, _), (2, _), (4, _), (7, _)] mixed (by kernel_rfl) (by kernel_rfl) [] (by kernel_rfl) (by (refine d_o [(0, _)] rfl rfl rfl z_su rfl q_move z_fp z_ss rfl ?_; refine d_o [(9, _)] rfl rfl rfl z_su rfl q_move z_fp z_ss rfl ?_; refine d_o [(10, _)] rfl rfl rfl z_su rfl q_fieldAddr z_fp z_ss rfl ?_; refine d_o [(11, _)] rfl rfl rfl z_su rfl q_load z_fp z_ss rfl ?_; refine d_o [(4, _)] rfl rfl rfl z_su rfl q_fieldAddr z_fp z_ss rfl ?_; refine d_o [(13, _)] rfl rfl rfl z_su rfl q_load z_fp z_ss rfl ?_; refine wpD_on [nk] rfl rfl (callOf_eq rfl rfl rfl (mlk_tmp z_lk (mlk_tmp z_lk mlk_nil))) z_ip rfl (fun S' h => hfi S' (by rw [h nk (by simp)]; simp (disch := omega) [go_sem, k2])) z_fp ?_; refine d_o [(15, _)] rfl rfl rfl z_su rfl q_move z_fp z_ss rfl ?_; exact d_end z_mt z_sn)) z_su ?_; clear z_ex)
  refine WpM.seq ?_
  refine wpMid (Mid := fun (fr : Fr) (S' : St) => ∃ b1 k O1, addB b c = some (b1, k) ∧ BookAt S'.get L b1 O1 ∧ (∀ m, O1 m → (O m ∨ n0 < m) ∧ m < S'.next) ∧ n0 < S'.next ∧ S'.get n0 = some (.box [.d (.int .i64 c.kind), .d (.str c.key), .d (.int .i64 c.arg), .d (.bool c.got), .d (.sl (c.vals.map (D.int .i64)))]) ∧ (∀ m k, ¬ O m → H m = some k → S'.get m = some k) ∧ FrLe fr (frOf [(0, .ptr L 0), (2, .d (.int .i64 who)), (4, .ptr n0 0), (7, .d (.int .i64 k))])) ?_ ?_
  · cases hf : findN b.keys c.key with
    | none =>
      have hfi0 : findI b.keys c.key = -1 := by rw [findI, hf]
      ((repeat refine WpM.seq ?_); have z_ex := (And.intro @hfi0 True.intro); refine WpM.regPE [] [(0, _), (2, _), (4, _), (7, _), (17, _)] (by (refine s_o [(7, _)] rfl rfl rfl z_su rfl q_move z_fp z_ss ?_; refine s_o [(16, _)] rfl rfl rfl z_su rfl q_full z_fp z_ss ?_; exact wpS_nil ⟨rfl, rfl⟩)) z_su ?_; clear z_ex)
      ((repeat refine WpM.seq ?_); refine WpM.condT (by (simp (maxSteps := 2000000) (disch := omega) [go_sem, -List.map_map, hfi0])) ?_)
      ((repeat refine WpM.seq ?_); have z_ex := (And.intro @k1 True.intro); refine WpM.regPE [] [(0, _), (2, _), (4, _), (23, _)] (by (refine s_o [(0, _)] rfl rfl rfl z_su rfl q_move z_fp z_ss ?_; refine s_o [(18, _)] rfl rfl rfl z_su rfl q_move z_fp z_ss ?_; refine s_o [(19, _)] rfl rfl rfl z_su rfl q_fieldAddr z_fp z_ss ?_; refine s_o [(20, _)] rfl rfl rfl z_su rfl q_load z_fp z_ss ?_; refine s_o [(21, _)] rfl rfl rfl z_su rfl q_full z_fp z_ss ?_; refine s_o [(22, _)] rfl rfl rfl z_su rfl q_full z_fp z_ss ?_; exact wpS_nil ⟨rfl, rfl⟩)) z_su ?_; clear z_ex)
      by_cases hl : b.keys.length = 32
      · have hl' : (32 : Int) ≤ b.keys.length := by omega
        ((repeat refine WpM.seq ?_); refine WpM.condT (by (simp (maxSteps := 2000000) (disch := omega) [go_sem, -List.map_map, hl'])) ?_)
        have he : enterB b c who = .error 2 := by simp [enterB, addB, hf, hl]
        rw [he]
        ((repeat refine WpM.seq ?_); have z_ex := True.intro; refine WpM.regPE [] [(6, _)] (by (refine s_o [] rfl rfl rfl z_su rfl q_move z_fp z_ss ?_; exact wpS_nil ⟨rfl, rfl⟩)) z_su ?_; clear z_ex)
        refine WpM.ret ?_
        refine ⟨.inr rfl, Upd.done ⟨_, (by (simp (maxSteps := 2000000) (disch := omega) [go_sem, -List.map_map, resV, resVs, resV1])), (by show n0 ≤ n0 + _; omega), fun m k _ hk => ?_, rfl, by decide⟩⟩
        have := hH _ _ hk
        (simp (maxSteps := 2000000) (disch := omega) [go_sem, -List.map_map, hk])
      · have hl' : (b.keys.length : Int) < 32 := by omega
        ((repeat refine WpM.seq ?_); refine WpM.condF (by (simp (maxSteps := 2000000) (disch := omega) [go_sem, -List.map_map, hl'])) ?_)
        refine WpM.skip ?_
        have ht := of35 c.kind hk1 hk8
        have k4 := hN.types
        have k5 := hN.wr
        have k6 := hN.incs
        have k7 := hN.last
        have htl := hw.types
        have hwl := hw.wrote
        have hil := hw.incs
        have hwn := hN.wlen
        have t1 : (b.keys.map fun s => V.d (.str s)).take b.keys.length = b.keys.map fun s => V.d (.str s) := List.take_of_length_le (by simp)
        have t2 : (b.types.map fun s => V.d (.int .i64 s)).take b.types.length = b.types.map fun s => V.d (.int .i64 s) := List.take_of_length_le (by simp)
        have t3 : ws.take b.wrote.length = ws := List.take_of_length_le (by omega)
        have t4 : (b.incs.map fun l => V.d (.int .i64 l.length)).take b.incs.length = b.incs.map fun l => V.d (.int .i64 l.length) := List.take_of_length_le (by simp)
        have t5 : (b.incs.map fun l => V.d (.int .i64 (lastD l))).take b.incs.length = b.incs.map fun l => V.d (.int .i64 (lastD l)) := List.take_of_length_le (by simp)
        ((repeat refine WpM.seq ?_); have z_ex := (And.intro @k1 True.intro); refine WpM.regPE [] [(0, _), (2, _), (4, _), (7, _)] (by (refine s_o [(0, _)] rfl rfl rfl z_su rfl q_move z_fp z_ss ?_; refine s_o [(24, _)] rfl rfl rfl z_su rfl q_move z_fp z_ss ?_; refine s_o [(25, _)] rfl rfl rfl z_su rfl q_fieldAddr z_fp z_ss ?_; refine s_o [(26, _)] rfl rfl rfl z_su rfl q_load z_fp z_ss ?_; refine s_o [(27, _)] rfl rfl rfl z_su rfl q_full z_fp z_ss ?_; refine s_o [(28, _)] rfl rfl rfl z_su rfl q_move z_fp z_ss ?_; exact wpS_nil ⟨rfl, rfl⟩)) z_su ?_; clear z_ex)
        ((repeat refine WpM.seq ?_); have z_ex := (And.intro @k1 (And.intro @k2 (And.intro @t1 True.intro))); refine WpM.drwPE [] [(0, _), (2, _), (4, _), (7, _)] mixed (by kernel_rfl) (by kernel_rfl) [(4, 7)] (by kernel_rfl) (by (refine d_o [(0, _)] rfl rfl rfl z_su rfl q_move z_fp z_ss rfl ?_; refine d_o [(0, _)] rfl rfl rfl z_su rfl q_move z_fp z_ss rfl ?_; refine d_o [(30, _)] rfl rfl rfl z_su rfl q_move z_fp z_ss rfl ?_; refine d_o [(31, _)] rfl rfl rfl z_su rfl q_fieldAddr z_fp z_ss rfl ?_; refine d_o [(32, _)] rfl rfl rfl z_su rfl q_load z_fp z_ss rfl ?_; refine d_o [(4, _)] rfl rfl rfl z_su rfl q_fieldAddr z_fp z_ss rfl ?_; refine d_o [(34, _)] rfl rfl rfl z_su rfl q_load z_fp z_ss rfl ?_; refine d_o [(35, _)] rfl rfl rfl z_su rfl q_full z_fp z_ss rfl ?_; refine d_o [(33, _), (36, _)] rfl rfl rfl z_su rfl q_full z_fp z_ss rfl ?_; refine d_o [(29, _)] rfl rfl rfl z_su rfl q_move z_fp z_ss rfl ?_; refine d_o [(38, _)] rfl rfl rfl z_su rfl q_fieldAddr z_fp z_ss rfl ?_; refine d_o [(37, _), (39, _)] rfl rfl rfl z_su rfl q_store z_fp z_ss rfl ?_; exact d_end z_mt z_sn)) z_su ?_; clear z_ex)
        ((repeat refine WpM.seq ?_); have z_ex := (And.intro @k1 (And.intro @k4 (And.intro @t2 True.intro))); refine WpM.drwPE [] [(0, _), (2, _), (4, _), (7, _)] mixed (by kernel_rfl) (by kernel_rfl) [(4, 7), (4, 8)] (by kernel_rfl) (by (refine d_o [(0, _)] rfl rfl rfl z_su rfl q_move z_fp z_ss rfl ?_; refine d_o [(0, _)] rfl rfl rfl z_su rfl q_move z_fp z_ss rfl ?_; refine d_o [(41, _)] rfl rfl rfl z_su rfl q_move z_fp z_ss rfl ?_; refine d_o [(42, _)] rfl rfl rfl z_su rfl q_fieldAddr z_fp z_ss rfl ?_; refine d_o [(43, _)] rfl rfl rfl z_su rfl q_load z_fp z_ss rfl ?_; refine d_o [(4, _)] rfl rfl rfl z_su rfl q_fieldAddr z_fp z_ss rfl ?_; refine d_o [(45, _)] rfl rfl rfl z_su rfl q_load z_fp z_ss rfl ?_; refine d_pure (callOf_eq rfl rfl rfl (mlk_tmp z_lk mlk_nil)) (ht) rfl rfl z_ip rfl z_fp ?_; refine d_o [(47, _)] rfl rfl rfl z_su rfl q_full z_fp z_ss rfl ?_; refine d_o [(44, _), (48, _)] rfl rfl rfl z_su rfl q_full z_fp z_ss rfl ?_; refine d_o [(40, _)] rfl rfl rfl z_su rfl q_move z_fp z_ss rfl ?_; refine d_o [(50, _)] rfl rfl rfl z_su rfl q_fieldAddr z_fp z_ss rfl ?_; refine d_o [(49, _), (51, _)] rfl rfl rfl z_su rfl q_store z_fp z_ss rfl ?_; exact d_end z_mt z_sn)) z_su ?_; clear z_ex)
        ((repeat refine WpM.seq ?_); have z_ex := (And.intro @k1 (And.intro @k5 (And.intro @t3 (And.intro @hwn True.intro)))); refine WpM.regPE [] [(0, _), (2, _), (4, _), (7, _)] (by (refine s_o [(0, _)] rfl rfl rfl z_su rfl q_move z_fp z_ss ?_; refine s_o [(0, _)] rfl rfl rfl z_su rfl q_move z_fp z_ss ?_; refine s_o [(53, _)] rfl rfl rfl z_su rfl q_move z_fp z_ss ?_; refine s_o [(54, _)] rfl rfl rfl z_su rfl q_fieldAddr z_fp z_ss ?_; refine s_o [(55, _)] rfl rfl rfl z_su rfl q_load z_fp z_ss ?_; refine s_o [] rfl rfl rfl z_su rfl q_full z_fp z_ss ?_; refine s_o [(56, _), (57, _)] rfl rfl rfl z_su rfl q_full z_fp z_ss ?_; refine s_o [(52, _)] rfl rfl rfl z_su rfl q_move z_fp z_ss ?_; refine s_o [(59, _)] rfl rfl rfl z_su rfl q_fieldAddr z_fp z_ss ?_; refine s_o [(58, _), (60, _)] rfl rfl rfl z_su rfl q_store z_fp z_ss ?_; exact wpS_nil ⟨rfl, rfl⟩)) z_su ?_; clear z_ex)
        ((repeat refine WpM.seq ?_); have z_ex := (And.intro @k1 (And.intro @k6 (And.intro @t4 True.intro))); refine WpM.regPE [] [(0, _), (2, _), (4, _), (7, _)] (by (refine s_o [(0, _)] rfl rfl rfl z_su rfl q_move z_fp z_ss ?_; refine s_o [(0, _)] rfl rfl rfl z_su rfl q_move z_fp z_ss ?_; refine s_o [(62, _)] rfl rfl rfl z_su rfl q_move z_fp z_ss ?_; refine s_o [(63, _)] rfl rfl rfl z_su rfl q_fieldAddr z_fp z_ss ?_; refine s_o [(64, _)] rfl rfl rfl z_su rfl q_load z_fp z_ss ?_; refine s_o [] rfl rfl rfl z_su rfl q_full z_fp z_ss ?_; refine s_o [(65, _), (66, _)] rfl rfl rfl z_su rfl q_full z_fp z_ss ?_; refine s_o [(61, _)] rfl rfl rfl z_su rfl q_move z_fp z_ss ?_; refine s_o [(68, _)] rfl rfl rfl z_su rfl q_fieldAddr z_fp z_ss ?_; refine s_o [(67, _), (69, _)] rfl rfl rfl z_su rfl q_store z_fp z_ss ?_; exact wpS_nil ⟨rfl, rfl⟩)) z_su ?_; clear z_ex)
        ((repeat refine WpM.seq ?_); have z_ex := (And.intro @k1 (And.intro @k7 (And.intro @t5 True.intro))); refine WpM.regPE [] [(0, _), (2, _), (4, _), (7, _)] (by (refine s_o [(0, _)] rfl rfl rfl z_su rfl q_move z_fp z_ss ?_; refine s_o [(0, _)] rfl rfl rfl z_su rfl q_move z_fp z_ss ?_; refine s_o [(71, _)] rfl rfl rfl z_su rfl q_move z_fp z_ss ?_; refine s_o [(72, _)] rfl rfl rfl z_su rfl q_fieldAddr z_fp z_ss ?_; refine s_o [(73, _)] rfl rfl rfl z_su rfl q_load z_fp z_ss ?_; refine s_o [] rfl rfl rfl z_su rfl q_full z_fp z_ss ?_; refine s_o [(74, _), (75, _)] rfl rfl rfl z_su rfl q_full z_fp z_ss ?_; refine s_o [(70, _)] rfl rfl rfl z_su rfl q_move z_fp z_ss ?_; refine s_o [(77, _)] rfl rfl rfl z_su rfl q_fieldAddr z_fp z_ss ?_; refine s_o [(76, _), (78, _)] rfl rfl rfl z_su rfl q_store z_fp z_ss ?_; exact wpS_nil ⟨rfl, rfl⟩)) z_su ?_; clear z_ex)
        have o1 : ¬ O (n0 + 32) := fun h => by have := hO _ h; omega
        have o2 : ¬ O (n0 + 45) := fun h => by have := hO _ h; omega
        have o3 : ¬ O (n0 + 55) := fun h => by have := hO _ h; omega
        have o4 : ¬ O (n0 + 65) := fun h => by have := hO _ h; omega
        have o5 : ¬ O (n0 + 75) := fun h => by have := hO _ h; omega
        refine ⟨b.push c, b.keys.length, fun m => O m ∨ m = n0 + 32 ∨ m = n0 + 45 ∨ m = n0 + 55 ∨ m = n0 + 65 ∨ m = n0 + 75, by simp [addB, hf, hl], hN.push hw o1 o2 o3 o4 o5 (by omega) (by (simp (maxSteps := 2000000) (disch := omega) [go_sem, -List.map_map])) (by (simp (maxSteps := 2000000) (disch := omega) [go_sem, -List.map_map])) (by (simp (maxSteps := 2000000) (disch := omega) [go_sem, -List.map_map])) (by (simp (maxSteps := 2000000) (disch := omega) [go_sem, -List.map_map])) (by (simp (maxSteps := 2000000) (disch := omega) [go_sem, -List.map_map])) (by (simp (maxSteps := 2000000) (disch := omega) [go_sem, -List.map_map])) (fun m k h1 h2 h3 h4 h5 h6 ho hk => ?_), fun m hm => ?_, ?_, ?_, fun m k ho hk => ?_, FrLe.refl _⟩
        · have := hO _ ho
          (simp (maxSteps := 2000000) (disch := omega) [go_sem, -List.map_map, hk])
        · show _ ∧ m < n0 + 79
          rcases hm with hm | hm
          · have := hO _ hm; exact ⟨.inl hm, by omega⟩
          · exact ⟨.inr (by omega), by omega⟩
        · show n0 < n0 + 79; omega
        · (simp (maxSteps := 2000000) (disch := omega) [go_sem, -List.map_map])
        · have h1 : m ≠ L := fun e => ho (e ▸ hN.oL)
          have h2 : m ≠ nk := fun e => ho (e ▸ hN.ok)
          have h3 : m ≠ nt := fun e => ho (e ▸ hN.ot)
          have h4 : m ≠ nw := fun e => ho (e ▸ hN.ow)
          have h5 : m ≠ ni := fun e => ho (e ▸ hN.oi)
          have h6 : m ≠ nl := fun e => ho (e ▸ hN.ol)
          have := hH _ _ hk
          (simp (maxSteps := 2000000) (disch := omega) [go_sem, -List.map_map, hk])
    | some k =>
      have hfi0 : findI b.keys c.key = k := by rw [findI, hf]
      have hge : ¬ ((k : Int) < 0) := by omega
      ((repeat refine WpM.seq ?_); have z_ex := (And.intro @hfi0 (And.intro @hge True.intro)); refine WpM.regPE [] [(0, _), (2, _), (4, _), (7, _), (17, _)] (by (refine s_o [(7, _)] rfl rfl rfl z_su rfl q_move z_fp z_ss ?_; refine s_o [(16, _)] rfl rfl rfl z_su rfl q_full z_fp z_ss ?_; exact wpS_nil ⟨rfl, rfl⟩)) z_su ?_; clear z_ex)
      ((repeat refine WpM.seq ?_); refine WpM.condF (by (simp (maxSteps := 2000000) (disch := omega) [go_sem, -List.map_map, hfi0, hge])) ?_)
      refine WpM.skip ?_
      refine ⟨b, k, O, by simp [addB, hf], ?_, fun m hm => ⟨.inl hm, ?_⟩, ?_, ?_, fun m k ho hk => ?_, ?_⟩
      · refine BookAt.same (G := H) ⟨nk, nt, nw, ni, nl, ws, r, hN⟩ fun m k ho hk => ?_
        have := hO _ ho
        (simp (maxSteps := 2000000) (disch := omega) [go_sem, -List.map_map, hk])
      · have := hO _ hm; show m < n0 + _; omega
      · show n0 < n0 + _; omega
      · (simp (maxSteps := 2000000) (disch := omega) [go_sem, -List.map_map])
      · have := hH _ _ hk
        (simp (maxSteps := 2000000) (disch := omega) [go_sem, -List.map_map, hk])
      · exact frLe_frOf (by (simp (maxSteps := 2000000) (disch := omega) [go_sem, -List.map_map, hfi0]))
  clear hfi k1 k2 hN q1 q2 q3 q4 q5 q6 a1 a2 a3 a4 a5 a6 a7 a8 a9 a10 gL gk gt gw gi gl
  rintro fr S' ⟨b1, k, O1, hadd, ⟨nk, nt, nw, ni, nl, ws, r, hN⟩, hO1, hnx, hc, old, hfr⟩
  refine WpM.less (St.Le.refl _) hfr ?_
  refine WpM.norm ?_
  intro nx G hnx2 hG2 hGk
  rw [← hG2] at hN hc old
  rw [← hnx2] at hnx hO1
  clear hG2 hnx2 hfr
  obtain ⟨hw1, hf1⟩ := addB_wf hw hadd
  have hen : enterB b c who = putB b1 k c who := by simp [enterB, hadd]
  rw [hen]
  clear hen hadd
  obtain ⟨q1, q2, q3, q4, q5, q6⟩ := hN.box_ne
  obtain ⟨a1, a2, a3, a4, a5, a6, a7, a8, a9, a10⟩ := hN.ne
  have on0 : ¬ O1 n0 := fun h => by
    rcases (hO1 _ h).1 with h' | h'
    · have := hO _ h'; omega
    · omega
  have gL : L < nx := (hO1 _ hN.oL).2
  have gk : nk < nx := (hO1 _ hN.ok).2
  have gt : nt < nx := (hO1 _ hN.ot).2
  have gw : nw < nx := (hO1 _ hN.ow).2
  have gi : ni < nx := (hO1 _ hN.oi).2
  have gl : nl < nx := (hO1 _ hN.ol).2
  have nL : n0 ≠ L := fun e => on0 (e ▸ hN.oL)
  have nt0 : n0 ≠ nt := fun e => on0 (e ▸ hN.ot)
  have nw0 : n0 ≠ nw := fun e => on0 (e ▸ hN.ow)
  have ni0 : n0 ≠ ni := fun e => on0 (e ▸ hN.oi)
  have nl0 : n0 ≠ nl := fun e => on0 (e ▸ hN.ol)
  have k1 := hN.box
  have k5 := hN.types
  have k8 := hN.wr
  have k10 := hN.incs
  have k11 := hN.last
  have hkl := findN_lt hf1
  have htl := hw1.types
  have hwl := hw1.wrote
  have hil := hw1.incs
  have hwn := hN.wlen
  have hkl32 := hw1.keys
  have hkt1 : k < b1.types.length := by omega
  have hkw : k < b1.wrote.length := by omega
  have hki : k < b1.incs.length := by omega
  obtain ⟨ty, hty0⟩ : ∃ ty, ty = b1.types.getD k 0 := ⟨_, rfl⟩
  have hgt : (b1.types.map fun t => V.d (.int .i64 t))[k]? = some (.d (.int .i64 ty)) := by rw [hty0]; simp [hkt1]
  have ht := of35 c.kind hk1 hk8
  have oldO : ∀ m k, ¬ O m → H m = some k → m < nx ∧ G m = some k ∧ m ≠ n0 := fun m k ho hk => by
    have h1 := old m k ho hk
    have h2 := hGk _ _ h1
    have h3 := hH _ _ hk
    exact ⟨h2, h1, by omega⟩
  have onO : ∀ m, O1 m → ∀ q k, ¬ O q → H q = some k → q ≠ m := fun m hm q k ho hk e => by
    rcases (hO1 _ hm).1 with h | h
    · exact ho (e ▸ h)
    · have := hH _ _ hk; omega
  ((repeat refine WpM.seq ?_); have z_ex := (And.intro @k1 (And.intro @k5 (And.intro @hgt (And.intro @hkt1 (And.intro @hc True.intro))))); refine WpM.drwPE [] [(0, _), (2, _), (4, _), (7, _), (89, _)] mixed (by kernel_rfl) (by kernel_rfl) [(3, 9), (6, 9)] (by kernel_rfl) (by (refine d_o [(0, _)] rfl rfl rfl z_su rfl q_move z_fp z_ss rfl ?_; refine d_o [(79, _)] rfl rfl rfl z_su rfl q_move z_fp z_ss rfl ?_; refine d_o [(80, _)] rfl rfl rfl z_su rfl q_fieldAddr z_fp z_ss rfl ?_; refine d_o [(81, _)] rfl rfl rfl z_su rfl q_load z_fp z_ss rfl ?_; refine d_o [(7, _)] rfl rfl rfl z_su rfl q_move z_fp z_ss rfl ?_; refine d_o [(82, _), (83, _)] rfl rfl rfl z_su rfl q_full z_fp z_ss rfl ?_; refine d_o [(84, _)] rfl rfl rfl z_su rfl q_load z_fp z_ss rfl ?_; refine d_o [(4, _)] rfl rfl rfl z_su rfl q_fieldAddr z_fp z_ss rfl ?_; refine d_o [(86, _)] rfl rfl rfl z_su rfl q_load z_fp z_ss rfl ?_; refine d_pure (callOf_eq rfl rfl rfl (mlk_tmp z_lk mlk_nil)) (ht) rfl rfl z_ip rfl z_fp ?_; refine d_o [(85, _), (88, _)] rfl rfl rfl z_su rfl q_full z_fp z_ss rfl ?_; exact d_end z_mt z_sn)) z_su ?_; clear z_ex)
  by_cases hty : ty = tyOf c.kind
  · ((repeat refine WpM.seq ?_); refine WpM.condF (by (simp (maxSteps := 2000000) (disch := omega) [go_sem, -List.map_map, hty])) ?_)
    refine WpM.skip ?_
    have hput : putB b1 k c who = if c.kind = 2 ∨ c.kind = 3 then
        if c.arg ∈ b1.wrote.getD k [] then .error 3 else .ok { b1 with wrote := b1.wrote.set k (b1.wrote.getD k [] ++ [c.arg]) }
      else if c.kind = 4 then
        if 8 < (incNext (b1.incs.getD k []) who).length then .error 51 else .ok { b1 with incs := b1.incs.set k (incNext (b1.incs.getD k []) who) }
      else .ok b1 := by rw [putB, ← hty0, if_neg (by simpa using hty)]
    rw [hput]
    clear hput
    by_cases h23 : c.kind = 2 ∨ c.kind = 3
    · rw [if_pos h23]
      have hw0 := hN.w0 k (by omega)
      have hwk := hN.w1 k
      have hwlen := hw1.wlen k
      have hq6 := q6 k
      obtain ⟨wl, hwl0⟩ : ∃ wl, wl = b1.wrote.getD k [] := ⟨_, rfl⟩
      rw [← hwl0] at hw0 hwk hwlen hq6 ⊢
      have h4 : ¬ c.kind = 4 := by omega
      have fin : ∀ (S2 : St) (nr : Nat), nx ≤ nr → nr < S2.next → S2.get nw = some (.row 1 (ws.set k (.ms nr 1 0 (wl.length + 1)))) → S2.get nr = some (.row 1 ((wl.map fun t => .d (.int .i64 t)) ++ [.d (.int .i64 c.arg)])) →
          (∀ m q, m ≠ nw → (wl ≠ [] → m ≠ r k) → m < nx → G m = some q → S2.get m = some q) → EntP BookAt n0 H L O (.ok { b1 with wrote := b1.wrote.set k (wl ++ [c.arg]) }) (.d (.int .i64 0)) S2 := by
        intro S2 nr h1 h2 h3 h5 h6
        refine ⟨by omega, fun m q ho hk => ?_, rfl, fun m => O1 m ∨ m = nr, fun m hm => ?_, ?_⟩
        · obtain ⟨b1, b2, b3⟩ := oldO m q ho hk
          exact h6 m q (onO _ hN.ow m q ho hk) (fun hne => onO _ (hwk hne).2.2.1 m q ho hk) b1 b2
        · rcases hm with hm | rfl
          · have := hO1 m hm; exact ⟨this.1.imp id (fun h => by omega), by omega⟩
          · exact ⟨.inr (by omega), h2⟩
        · rw [hwl0] at h3 h5 ⊢
          exact hN.wrote (nr := nr) hw1 hkw (fun h => by have := (hO1 _ h).2; omega) h3 h5 fun m q e1 e2 ho hk => h6 m q e1 (by rw [hwl0]; exact e2) (hO1 _ ho).2 hk
      rcases h23 with h2 | h2
      · ((repeat refine WpM.seq ?_); have z_ex := (And.intro @hc (And.intro @h2 True.intro)); refine WpM.regPE [] [(0, _), (2, _), (4, _), (7, _), (97, _)] (by (refine s_o [(4, _)] rfl rfl rfl z_su rfl q_fieldAddr z_fp z_ss ?_; refine s_o [(90, _)] rfl rfl rfl z_su rfl q_load z_fp z_ss ?_; refine s_o [(91, _)] rfl rfl rfl z_su rfl q_full z_fp z_ss ?_; refine s_o [(92, _)] rfl rfl rfl z_su rfl q_move z_fp z_ss ?_; refine s_wit ?_; intro z_g; (first | refine s_skip rfl z_g z_fp ?_ | (refine s_o [(4, _)] rfl z_g rfl z_su rfl q_fieldAddr z_fp z_ss ?_)); clear z_g; refine s_wit ?_; intro z_g; (first | refine s_skip rfl z_g z_fp ?_ | (refine s_o [(94, _)] rfl z_g rfl z_su rfl q_load z_fp z_ss ?_)); clear z_g; refine s_wit ?_; intro z_g; (first | refine s_skip rfl z_g z_fp ?_ | (refine s_o [(95, _)] rfl z_g rfl z_su rfl q_full z_fp z_ss ?_)); clear z_g; refine s_o [(93, _), (96, _)] rfl rfl rfl z_su rfl q_move z_fp z_ss ?_; exact wpS_nil ⟨rfl, rfl⟩)) z_su ?_; clear z_ex)
        ((repeat refine WpM.seq ?_); refine WpM.condT (by (simp (maxSteps := 2000000) (disch := omega) [go_sem, -List.map_map, h2])) ?_)
        ((repeat refine WpM.seq ?_); have z_ex := True.intro; refine WpM.regPE [] [(0, _), (2, _), (4, _), (7, _), (8, _)] (by (refine s_o [] rfl rfl rfl z_su rfl q_move z_fp z_ss ?_; exact wpS_nil ⟨rfl, rfl⟩)) z_su ?_; clear z_ex)
        ((repeat refine WpM.seq ?_); refine WpM.block ?_)
        by_cases hnil : wl = []
        · have hv := hw0 hnil
          refine WpM.loop (fun (j : Nat) fr S => fr = frOf [(0, .ptr L 0), (2, .d (.int .i64 who)), (4, .ptr n0 0), (7, .d (.int .i64 k)), (8, .d (.int .i64 0))] ∧ ∃ nx2, nx ≤ nx2 ∧ S = ⟨nx2, [], G⟩) (fun j => 0) 0 (St.Le.refl _) (frLe_frOf (by (simp (maxSteps := 2000000) (disch := omega) [go_sem, -List.map_map]))) ⟨rfl, _, ?_, rfl⟩ ?_
          · omega
          rintro j fr S2 ⟨rfl, nx2, hnx2, rfl⟩
          ((repeat refine WpM.seq ?_); have z_ex := (And.intro @k1 (And.intro @k8 (And.intro @hv (And.intro @hkw (And.intro @hwn True.intro))))); refine WpM.regPE [] [(0, _), (2, _), (4, _), (7, _), (8, _), (107, _)] (by (refine s_o [(8, _)] rfl rfl rfl z_su rfl q_move z_fp z_ss ?_; refine s_o [(0, _)] rfl rfl rfl z_su rfl q_move z_fp z_ss ?_; refine s_o [(99, _)] rfl rfl rfl z_su rfl q_move z_fp z_ss ?_; refine s_o [(100, _)] rfl rfl rfl z_su rfl q_fieldAddr z_fp z_ss ?_; refine s_o [(101, _)] rfl rfl rfl z_su rfl q_load z_fp z_ss ?_; refine s_o [(7, _)] rfl rfl rfl z_su rfl q_move z_fp z_ss ?_; refine s_o [(102, _), (103, _)] rfl rfl rfl z_su rfl q_full z_fp z_ss ?_; refine s_o [(104, _)] rfl rfl rfl z_su rfl q_load z_fp z_ss ?_; refine s_o [(105, _)] rfl rfl rfl z_su rfl q_full z_fp z_ss ?_; refine s_o [(98, _), (106, _)] rfl rfl rfl z_su rfl q_full z_fp z_ss ?_; exact wpS_nil ⟨rfl, rfl⟩)) z_su ?_; clear z_ex)
          ((repeat refine WpM.seq ?_); refine WpM.condF (by (simp (maxSteps := 2000000) (disch := omega) [go_sem, -List.map_map])) ?_)
          (refine WpM.exit ?_; (repeat (with_reducible (first | refine thenM_exit ?_ | refine blockM_eq ?_ | refine blockM_ne (by decide) ?_))))
          rw [if_neg (by rw [hnil]; simp)]
          ((repeat refine WpM.seq ?_); have z_ex := (And.intro @k1 (And.intro @k8 (And.intro @hv (And.intro @hkw (And.intro @hwn (And.intro @hc True.intro)))))); refine WpM.drwPE [] [(0, _), (2, _), (4, _), (7, _)] mixed (by kernel_rfl) (by kernel_rfl) [(3, 14), (8, 14), (11, 14), (3, 15)] (by kernel_rfl) (by (refine d_o [(0, _)] rfl rfl rfl z_su rfl q_move z_fp z_ss rfl ?_; refine d_o [(123, _)] rfl rfl rfl z_su rfl q_move z_fp z_ss rfl ?_; refine d_o [(124, _)] rfl rfl rfl z_su rfl q_fieldAddr z_fp z_ss rfl ?_; refine d_o [(125, _)] rfl rfl rfl z_su rfl q_load z_fp z_ss rfl ?_; refine d_o [(7, _)] rfl rfl rfl z_su rfl q_move z_fp z_ss rfl ?_; refine d_o [(0, _)] rfl rfl rfl z_su rfl q_move z_fp z_ss rfl ?_; refine d_o [(128, _)] rfl rfl rfl z_su rfl q_move z_fp z_ss rfl ?_; refine d_o [(129, _)] rfl rfl rfl z_su rfl q_fieldAddr z_fp z_ss rfl ?_; refine d_o [(130, _)] rfl rfl rfl z_su rfl q_load z_fp z_ss rfl ?_; refine d_o [(7, _)] rfl rfl rfl z_su rfl q_move z_fp z_ss rfl ?_; refine d_o [(131, _), (132, _)] rfl rfl rfl z_su rfl q_full z_fp z_ss rfl ?_; refine d_o [(133, _)] rfl rfl rfl z_su rfl q_load z_fp z_ss rfl ?_; refine d_o [(4, _)] rfl rfl rfl z_su rfl q_fieldAddr z_fp z_ss rfl ?_; refine d_o [(135, _)] rfl rfl rfl z_su rfl q_load z_fp z_ss rfl ?_; refine d_o [(136, _)] rfl rfl rfl z_su rfl q_full z_fp z_ss rfl ?_; refine d_o [(134, _), (137, _)] rfl rfl rfl z_su rfl q_full z_fp z_ss rfl ?_; refine d_o [(126, _), (127, _)] rfl rfl rfl z_su rfl q_full z_fp z_ss rfl ?_; refine d_o [(138, _), (139, _)] rfl rfl rfl z_su rfl q_store z_fp z_ss rfl ?_; exact d_end z_mt z_sn)) z_su ?_; clear z_ex)
          ((repeat refine WpM.seq ?_); have z_ex := (And.intro @hc (And.intro @h4 True.intro)); refine WpM.regPE [] [(0, _), (2, _), (7, _), (153, _)] (by (refine s_o [(4, _)] rfl rfl rfl z_su rfl q_fieldAddr z_fp z_ss ?_; refine s_o [(140, _)] rfl rfl rfl z_su rfl q_load z_fp z_ss ?_; refine s_o [(141, _)] rfl rfl rfl z_su rfl q_full z_fp z_ss ?_; refine s_o [(142, _)] rfl rfl rfl z_su rfl q_move z_fp z_ss ?_; refine s_wit ?_; intro z_g; (first | refine s_skip rfl z_g z_fp ?_ | (refine s_o [(0, _)] rfl z_g rfl z_su rfl q_move z_fp z_ss ?_)); clear z_g; refine s_wit ?_; intro z_g; (first | refine s_skip rfl z_g z_fp ?_ | (refine s_o [(144, _)] rfl z_g rfl z_su rfl q_move z_fp z_ss ?_)); clear z_g; refine s_wit ?_; intro z_g; (first | refine s_skip rfl z_g z_fp ?_ | (refine s_o [(145, _)] rfl z_g rfl z_su rfl q_fieldAddr z_fp z_ss ?_)); clear z_g; refine s_wit ?_; intro z_g; (first | refine s_skip rfl z_g z_fp ?_ | (refine s_o [(146, _)] rfl z_g rfl z_su rfl q_load z_fp z_ss ?_)); clear z_g; refine s_wit ?_; intro z_g; (first | refine s_skip rfl z_g z_fp ?_ | (refine s_o [(7, _)] rfl z_g rfl z_su rfl q_move z_fp z_ss ?_)); clear z_g; refine s_wit ?_; intro z_g; (first | refine s_skip rfl z_g z_fp ?_ | (refine s_o [(147, _), (148, _)] rfl z_g rfl z_su rfl q_full z_fp z_ss ?_)); clear z_g; refine s_wit ?_; intro z_g; (first | refine s_skip rfl z_g z_fp ?_ | (refine s_o [(149, _)] rfl z_g rfl z_su rfl q_load z_fp z_ss ?_)); clear z_g; refine s_wit ?_; intro z_g; (first | refine s_skip rfl z_g z_fp ?_ | (refine s_o [(2, _)] rfl z_g rfl z_su rfl q_move z_fp z_ss ?_)); clear z_g; refine s_wit ?_; intro z_g; (first | refine s_skip rfl z_g z_fp ?_ | (refine s_o [(150, _), (151, _)] rfl z_g rfl z_su rfl q_full z_fp z_ss ?_)); clear z_g; refine s_o [(143, _), (152, _)] rfl rfl rfl z_su rfl q_move z_fp z_ss ?_; exact wpS_nil ⟨rfl, rfl⟩)) z_su ?_; clear z_ex)
          ((repeat refine WpM.seq ?_); refine WpM.condF (by (simp (maxSteps := 2000000) (disch := omega) [go_sem, -List.map_map, h4])) ?_)
          refine WpM.skip ?_
          ((repeat refine WpM.seq ?_); have z_ex := True.intro; refine WpM.regPE [] [(6, _)] (by (refine s_o [] rfl rfl rfl z_su rfl q_move z_fp z_ss ?_; exact wpS_nil ⟨rfl, rfl⟩)) z_su ?_; clear z_ex)
          refine WpM.ret ?_
          refine ⟨.inr rfl, Upd.done ⟨_, (by (simp (maxSteps := 2000000) (disch := omega) [go_sem, -List.map_map, resV, resVs, resV1])), fin _ (nx2 + 25) (by omega) (by show nx2 + 25 < nx2 + _; omega) (by (simp (maxSteps := 2000000) (disch := omega) [go_sem, -List.map_map, hnil])) (by (simp (maxSteps := 2000000) (disch := omega) [go_sem, -List.map_map, hnil])) fun m q e1 e2 e3 hk => by (simp (maxSteps := 2000000) (disch := omega) [go_sem, -List.map_map, hk])⟩⟩
        · obtain ⟨w1, w2, w3, w4, w5, w6, w7, w8⟩ := hwk hnil
          have grk : r k < nx := (hO1 _ w3).2
          have hr0 : n0 ≠ r k := fun e => on0 (e ▸ w3)
          have hrL : r k ≠ L := hq6 hnil
          refine WpM.loop (fun (j : Nat) fr S => j ≤ wl.length ∧ (∀ i (h : i < wl.length), i < j → wl[i] ≠ c.arg) ∧ fr = frOf [(0, .ptr L 0), (2, .d (.int .i64 who)), (4, .ptr n0 0), (7, .d (.int .i64 k)), (8, .d (.int .i64 j))] ∧ ∃ nx2, nx ≤ nx2 ∧ S = ⟨nx2, [], G⟩) (fun j => wl.length - j) 0 (St.Le.refl _) (frLe_frOf (by (simp (maxSteps := 2000000) (disch := omega) [go_sem, -List.map_map]))) ⟨by omega, by simp, rfl, _, ?_, rfl⟩ ?_
          · omega
          rintro j fr S2 ⟨hj, hall, rfl, nx2, hnx2, rfl⟩
          ((repeat refine WpM.seq ?_); have z_ex := (And.intro @k1 (And.intro @k8 (And.intro @w1 (And.intro @hkw (And.intro @hwn True.intro))))); refine WpM.regPE [] [(0, _), (2, _), (4, _), (7, _), (8, _), (107, _)] (by (refine s_o [(8, _)] rfl rfl rfl z_su rfl q_move z_fp z_ss ?_; refine s_o [(0, _)] rfl rfl rfl z_su rfl q_move z_fp z_ss ?_; refine s_o [(99, _)] rfl rfl rfl z_su rfl q_move z_fp z_ss ?_; refine s_o [(100, _)] rfl rfl rfl z_su rfl q_fieldAddr z_fp z_ss ?_; refine s_o [(101, _)] rfl rfl rfl z_su rfl q_load z_fp z_ss ?_; refine s_o [(7, _)] rfl rfl rfl z_su rfl q_move z_fp z_ss ?_; refine s_o [(102, _), (103, _)] rfl rfl rfl z_su rfl q_full z_fp z_ss ?_; refine s_o [(104, _)] rfl rfl rfl z_su rfl q_load z_fp z_ss ?_; refine s_o [(105, _)] rfl rfl rfl z_su rfl q_full z_fp z_ss ?_; refine s_o [(98, _), (106, _)] rfl rfl rfl z_su rfl q_full z_fp z_ss ?_; exact wpS_nil ⟨rfl, rfl⟩)) z_su ?_; clear z_ex)
          by_cases hlt : j < wl.length
          · ((repeat refine WpM.seq ?_); refine WpM.condT (by (simp (maxSteps := 2000000) (disch := omega) [go_sem, -List.map_map, hlt])) ?_)
            refine WpM.skip ?_
            ((repeat refine WpM.seq ?_); refine WpM.block ?_)
            have hget : (wl.map fun t => V.d (.int .i64 t))[j]? = some (.d (.int .i64 wl[j])) := by simp [hlt]
            ((repeat refine WpM.seq ?_); have z_ex := (And.intro @k1 (And.intro @k8 (And.intro @w1 (And.intro @w2 (And.intro @hkw (And.intro @hwn (And.intro @hc (And.intro @hget (And.intro @hlt True.intro))))))))); refine WpM.drwPE [] [(0, _), (2, _), (4, _), (7, _), (8, _), (122, _)] mixed (by kernel_rfl) (by kernel_rfl) [] (by kernel_rfl) (by (refine d_o [(0, _)] rfl rfl rfl z_su rfl q_move z_fp z_ss rfl ?_; refine d_o [(110, _)] rfl rfl rfl z_su rfl q_move z_fp z_ss rfl ?_; refine d_o [(111, _)] rfl rfl rfl z_su rfl q_fieldAddr z_fp z_ss rfl ?_; refine d_o [(112, _)] rfl rfl rfl z_su rfl q_load z_fp z_ss rfl ?_; refine d_o [(7, _)] rfl rfl rfl z_su rfl q_move z_fp z_ss rfl ?_; refine d_o [(113, _), (114, _)] rfl rfl rfl z_su rfl q_full z_fp z_ss rfl ?_; refine d_o [(115, _)] rfl rfl rfl z_su rfl q_load z_fp z_ss rfl ?_; refine d_o [(8, _)] rfl rfl rfl z_su rfl q_move z_fp z_ss rfl ?_; refine d_o [(116, _), (117, _)] rfl rfl rfl z_su rfl q_full z_fp z_ss rfl ?_; refine d_o [(118, _)] rfl rfl rfl z_su rfl q_load z_fp z_ss rfl ?_; refine d_o [(4, _)] rfl rfl rfl z_su rfl q_fieldAddr z_fp z_ss rfl ?_; refine d_o [(120, _)] rfl rfl rfl z_su rfl q_load z_fp z_ss rfl ?_; refine d_o [(119, _), (121, _)] rfl rfl rfl z_su rfl q_full z_fp z_ss rfl ?_; exact d_end z_mt z_sn)) z_su ?_; clear z_ex)
            by_cases he : wl[j] = c.arg
            · ((repeat refine WpM.seq ?_); refine WpM.condT (by (simp (maxSteps := 2000000) (disch := omega) [go_sem, -List.map_map, he])) ?_)
              rw [if_pos (by rw [← he]; exact List.getElem_mem _)]
              ((repeat refine WpM.seq ?_); have z_ex := True.intro; refine WpM.regPE [] [(6, _)] (by (refine s_o [] rfl rfl rfl z_su rfl q_move z_fp z_ss ?_; exact wpS_nil ⟨rfl, rfl⟩)) z_su ?_; clear z_ex)
              refine WpM.ret ?_
              refine ⟨.inr rfl, Upd.done ⟨_, (by (simp (maxSteps := 2000000) (disch := omega) [go_sem, -List.map_map, resV, resVs, resV1])), (by show n0 ≤ nx2 + _; omega), fun m k ho hk => ?_, rfl, by decide⟩⟩
              obtain ⟨h1, h2, h3⟩ := oldO m k ho hk
              (simp (maxSteps := 2000000) (disch := omega) [go_sem, -List.map_map, h2])
            · ((repeat refine WpM.seq ?_); refine WpM.condF (by (simp (maxSteps := 2000000) (disch := omega) [go_sem, -List.map_map, he])) ?_)
              refine WpM.skip ?_
              ((repeat refine WpM.seq ?_); have z_ex := (And.intro @wrap_id True.intro); refine WpM.regPE [] [(0, _), (2, _), (4, _), (7, _), (8, _)] (by (refine s_o [(8, _)] rfl rfl rfl z_su rfl q_move z_fp z_ss ?_; refine s_o [(108, _)] rfl rfl rfl z_su rfl q_full z_fp z_ss ?_; refine s_o [(109, _)] rfl rfl rfl z_su rfl q_move z_fp z_ss ?_; exact wpS_nil ⟨rfl, rfl⟩)) z_su ?_; clear z_ex)
              have hall' : ∀ i (h : i < wl.length), i < j + 1 → wl[i] ≠ c.arg := fun i h hi => by
                rcases Nat.lt_or_ge i j with h' | h'
                · exact hall i h h'
                · obtain rfl : i = j := by omega
                  exact he
              refine round_end (x' := j + 1) (St.Le.refl _) (frLe_frOf (by (simp (maxSteps := 2000000) (disch := omega) [go_sem, -List.map_map, wrap_id]))) ⟨by omega, hall', rfl, _, ?_, rfl⟩ (by omega)
              omega
          · ((repeat refine WpM.seq ?_); refine WpM.condF (by (simp (maxSteps := 2000000) (disch := omega) [go_sem, -List.map_map, hlt])) ?_)
            (refine WpM.exit ?_; (repeat (with_reducible (first | refine thenM_exit ?_ | refine blockM_eq ?_ | refine blockM_ne (by decide) ?_))))
            obtain rfl : j = wl.length := by omega
            have hnin : c.arg ∉ wl := fun h => by obtain ⟨i, hi, e⟩ := List.getElem_of_mem h; exact hall i hi hi e
            rw [if_neg hnin]
            have htk : (wl.map fun t => V.d (.int .i64 t)).take wl.length = wl.map fun t => V.d (.int .i64 t) := List.take_of_length_le (by simp)
            ((repeat refine WpM.seq ?_); have z_ex := (And.intro @k1 (And.intro @k8 (And.intro @w1 (And.intro @w2 (And.intro @hkw (And.intro @hwn (And.intro @hc (And.intro @htk True.intro)))))))); refine WpM.drwPE [] [(0, _), (2, _), (4, _), (7, _)] mixed (by kernel_rfl) (by kernel_rfl) [(3, 14), (8, 14), (11, 14), (3, 15)] (by kernel_rfl) (by (refine d_o [(0, _)] rfl rfl rfl z_su rfl q_move z_fp z_ss rfl ?_; refine d_o [(123, _)] rfl rfl rfl z_su rfl q_move z_fp z_ss rfl ?_; refine d_o [(124, _)] rfl rfl rfl z_su rfl q_fieldAddr z_fp z_ss rfl ?_; refine d_o [(125, _)] rfl rfl rfl z_su rfl q_load z_fp z_ss rfl ?_; refine d_o [(7, _)] rfl rfl rfl z_su rfl q_move z_fp z_ss rfl ?_; refine d_o [(0, _)] rfl rfl rfl z_su rfl q_move z_fp z_ss rfl ?_; refine d_o [(128, _)] rfl rfl rfl z_su rfl q_move z_fp z_ss rfl ?_; refine d_o [(129, _)] rfl rfl rfl z_su rfl q_fieldAddr z_fp z_ss rfl ?_; refine d_o [(130, _)] rfl rfl rfl z_su rfl q_load z_fp z_ss rfl ?_; refine d_o [(7, _)] rfl rfl rfl z_su rfl q_move z_fp z_ss rfl ?_; refine d_o [(131, _), (132, _)] rfl rfl rfl z_su rfl q_full z_fp z_ss rfl ?_; refine d_o [(133, _)] rfl rfl rfl z_su rfl q_load z_fp z_ss rfl ?_; refine d_o [(4, _)] rfl rfl rfl z_su rfl q_fieldAddr z_fp z_ss rfl ?_; refine d_o [(135, _)] rfl rfl rfl z_su rfl q_load z_fp z_ss rfl ?_; refine d_o [(136, _)] rfl rfl rfl z_su rfl q_full z_fp z_ss rfl ?_; refine d_o [(134, _), (137, _)] rfl rfl rfl z_su rfl q_full z_fp z_ss rfl ?_; refine d_o [(126, _), (127, _)] rfl rfl rfl z_su rfl q_full z_fp z_ss rfl ?_; refine d_o [(138, _), (139, _)] rfl rfl rfl z_su rfl q_store z_fp z_ss rfl ?_; exact d_end z_mt z_sn)) z_su ?_; clear z_ex)
            ((repeat refine WpM.seq ?_); have z_ex := (And.intro @hc (And.intro @h4 True.intro)); refine WpM.regPE [] [(0, _), (2, _), (7, _), (153, _)] (by (refine s_o [(4, _)] rfl rfl rfl z_su rfl q_fieldAddr z_fp z_ss ?_; refine s_o [(140, _)] rfl rfl rfl z_su rfl q_load z_fp z_ss ?_; refine s_o [(141, _)] rfl rfl rfl z_su rfl q_full z_fp z_ss ?_; refine s_o [(142, _)] rfl rfl rfl z_su rfl q_move z_fp z_ss ?_; refine s_wit ?_; intro z_g; (first | refine s_skip rfl z_g z_fp ?_ | (refine s_o [(0, _)] rfl z_g rfl z_su rfl q_move z_fp z_ss ?_)); clear z_g; refine s_wit ?_; intro z_g; (first | refine s_skip rfl z_g z_fp ?_ | (refine s_o [(144, _)] rfl z_g rfl z_su rfl q_move z_fp z_ss ?_)); clear z_g; refine s_wit ?_; intro z_g; (first | refine s_skip rfl z_g z_fp ?_ | (refine s_o [(145, _)] rfl z_g rfl z_su rfl q_fieldAddr z_fp z_ss ?_)); clear z_g; refine s_wit ?_; intro z_g; (first | refine s_skip rfl z_g z_fp ?_ | (refine s_o [(146, _)] rfl z_g rfl z_su rfl q_load z_fp z_ss ?_)); clear z_g; refine s_wit ?_; intro z_g; (first | refine s_skip rfl z_g z_fp ?_ | (refine s_o [(7, _)] rfl z_g rfl z_su rfl q_move z_fp z_ss ?_)); clear z_g; refine s_wit ?_; intro z_g; (first | refine s_skip rfl z_g z_fp ?_ | (refine s_o [(147, _), (148, _)] rfl z_g rfl z_su rfl q_full z_fp z_ss ?_)); clear z_g; refine s_wit ?_; intro z_g; (first | refine s_skip rfl z_g z_fp ?_ | (refine s_o [(149, _)] rfl z_g rfl z_su rfl q_load z_fp z_ss ?_)); clear z_g; refine s_wit ?_; intro z_g; (first | refine s_skip rfl z_g z_fp ?_ | (refine s_o [(2, _)] rfl z_g rfl z_su rfl q_move z_fp z_ss ?_)); clear z_g; refine s_wit ?_; intro z_g; (first | refine s_skip rfl z_g z_fp ?_ | (refine s_o [(150, _), (151, _)] rfl z_g rfl z_su rfl q_full z_fp z_ss ?_)); clear z_g; refine s_o [(143, _), (152, _)] rfl rfl rfl z_su rfl q_move z_fp z_ss ?_; exact wpS_nil ⟨rfl, rfl⟩)) z_su ?_; clear z_ex)
            ((repeat refine WpM.seq ?_); refine WpM.condF (by (simp (maxSteps := 2000000) (disch := omega) [go_sem, -List.map_map, h4])) ?_)
            refine WpM.skip ?_
            ((repeat refine WpM.seq ?_); have z_ex := True.intro; refine WpM.regPE [] [(6, _)] (by (refine s_o [] rfl rfl rfl z_su rfl q_move z_fp z_ss ?_; exact wpS_nil ⟨rfl, rfl⟩)) z_su ?_; clear z_ex)
            refine WpM.ret ?_
            refine ⟨.inr rfl, Upd.done ⟨_, (by (simp (maxSteps := 2000000) (disch := omega) [go_sem, -List.map_map, resV, resVs, resV1])), fin _ (nx2 + 25) (by omega) (by show nx2 + 25 < nx2 + _; omega) (by (simp (maxSteps := 2000000) (disch := omega) [go_sem, -List.map_map])) (by (simp (maxSteps := 2000000) (disch := omega) [go_sem, -List.map_map])) fun m q e1 e2 e3 hk => by have e4 := e2 hnil; (simp (maxSteps := 2000000) (disch := omega) [go_sem, -List.map_map, hk])⟩⟩
      · ((repeat refine WpM.seq ?_); have z_ex := (And.intro @hc (And.intro @h2 True.intro)); refine WpM.regPE [] [(0, _), (2, _), (4, _), (7, _), (97, _)] (by (refine s_o [(4, _)] rfl rfl rfl z_su rfl q_fieldAddr z_fp z_ss ?_; refine s_o [(90, _)] rfl rfl rfl z_su rfl q_load z_fp z_ss ?_; refine s_o [(91, _)] rfl rfl rfl z_su rfl q_full z_fp z_ss ?_; refine s_o [(92, _)] rfl rfl rfl z_su rfl q_move z_fp z_ss ?_; refine s_wit ?_; intro z_g; (first | refine s_skip rfl z_g z_fp ?_ | (refine s_o [(4, _)] rfl z_g rfl z_su rfl q_fieldAddr z_fp z_ss ?_)); clear z_g; refine s_wit ?_; intro z_g; (first | refine s_skip rfl z_g z_fp ?_ | (refine s_o [(94, _)] rfl z_g rfl z_su rfl q_load z_fp z_ss ?_)); clear z_g; refine s_wit ?_; intro z_g; (first | refine s_skip rfl z_g z_fp ?_ | (refine s_o [(95, _)] rfl z_g rfl z_su rfl q_full z_fp z_ss ?_)); clear z_g; refine s_o [(93, _), (96, _)] rfl rfl rfl z_su rfl q_move z_fp z_ss ?_; exact wpS_nil ⟨rfl, rfl⟩)) z_su ?_; clear z_ex)
        ((repeat refine WpM.seq ?_); refine WpM.condT (by (simp (maxSteps := 2000000) (disch := omega) [go_sem, -List.map_map, h2])) ?_)
        ((repeat refine WpM.seq ?_); have z_ex := True.intro; refine WpM.regPE [] [(0, _), (2, _), (4, _), (7, _), (8, _)] (by (refine s_o [] rfl rfl rfl z_su rfl q_move z_fp z_ss ?_; exact wpS_nil ⟨rfl, rfl⟩)) z_su ?_; clear z_ex)
        ((repeat refine WpM.seq ?_); refine WpM.block ?_)
        by_cases hnil : wl = []
        · have hv := hw0 hnil
          refine WpM.loop (fun (j : Nat) fr S => fr = frOf [(0, .ptr L 0), (2, .d (.int .i64 who)), (4, .ptr n0 0), (7, .d (.int .i64 k)), (8, .d (.int .i64 0))] ∧ ∃ nx2, nx ≤ nx2 ∧ S = ⟨nx2, [], G⟩) (fun j => 0) 0 (St.Le.refl _) (frLe_frOf (by (simp (maxSteps := 2000000) (disch := omega) [go_sem, -List.map_map]))) ⟨rfl, _, ?_, rfl⟩ ?_
          · omega
          rintro j fr S2 ⟨rfl, nx2, hnx2, rfl⟩
          ((repeat refine WpM.seq ?_); have z_ex := (And.intro @k1 (And.intro @k8 (And.intro @hv (And.intro @hkw (And.intro @hwn True.intro))))); refine WpM.regPE [] [(0, _), (2, _), (4, _), (7, _), (8, _), (107, _)] (by (refine s_o [(8, _)] rfl rfl rfl z_su rfl q_move z_fp z_ss ?_; refine s_o [(0, _)] rfl rfl rfl z_su rfl q_move z_fp z_ss ?_; refine s_o [(99, _)] rfl rfl rfl z_su rfl q_move z_fp z_ss ?_; refine s_o [(100, _)] rfl rfl rfl z_su rfl q_fieldAddr z_fp z_ss ?_; refine s_o [(101, _)] rfl rfl rfl z_su rfl q_load z_fp z_ss ?_; refine s_o [(7, _)] rfl rfl rfl z_su rfl q_move z_fp z_ss ?_; refine s_o [(102, _), (103, _)] rfl rfl rfl z_su rfl q_full z_fp z_ss ?_; refine s_o [(104, _)] rfl rfl rfl z_su rfl q_load z_fp z_ss ?_; refine s_o [(105, _)] rfl rfl rfl z_su rfl q_full z_fp z_ss ?_; refine s_o [(98, _), (106, _)] rfl rfl rfl z_su rfl q_full z_fp z_ss ?_; exact wpS_nil ⟨rfl, rfl⟩)) z_su ?_; clear z_ex)
          ((repeat refine WpM.seq ?_); refine WpM.condF (by (simp (maxSteps := 2000000) (disch := omega) [go_sem, -List.map_map])) ?_)
          (refine WpM.exit ?_; (repeat (with_reducible (first | refine thenM_exit ?_ | refine blockM_eq ?_ | refine blockM_ne (by decide) ?_))))
          rw [if_neg (by rw [hnil]; simp)]
          ((repeat refine WpM.seq ?_); have z_ex := (And.intro @k1 (And.intro @k8 (And.intro @hv (And.intro @hkw (And.intro @hwn (And.intro @hc True.intro)))))); refine WpM.drwPE [] [(0, _), (2, _), (4, _), (7, _)] mixed (by kernel_rfl) (by kernel_rfl) [(3, 14), (8, 14), (11, 14), (3, 15)] (by kernel_rfl) (by (refine d_o [(0, _)] rfl rfl rfl z_su rfl q_move z_fp z_ss rfl ?_; refine d_o [(123, _)] rfl rfl rfl z_su rfl q_move z_fp z_ss rfl ?_; refine d_o [(124, _)] rfl rfl rfl z_su rfl q_fieldAddr z_fp z_ss rfl ?_; refine d_o [(125, _)] rfl rfl rfl z_su rfl q_load z_fp z_ss rfl ?_; refine d_o [(7, _)] rfl rfl rfl z_su rfl q_move z_fp z_ss rfl ?_; refine d_o [(0, _)] rfl rfl rfl z_su rfl q_move z_fp z_ss rfl ?_; refine d_o [(128, _)] rfl rfl rfl z_su rfl q_move z_fp z_ss rfl ?_; refine d_o [(129, _)] rfl rfl rfl z_su rfl q_fieldAddr z_fp z_ss rfl ?_; refine d_o [(130, _)] rfl rfl rfl z_su rfl q_load z_fp z_ss rfl ?_; refine d_o [(7, _)] rfl rfl rfl z_su rfl q_move z_fp z_ss rfl ?_; refine d_o [(131, _), (132, _)] rfl rfl rfl z_su rfl q_full z_fp z_ss rfl ?_; refine d_o [(133, _)] rfl rfl rfl z_su rfl q_load z_fp z_ss rfl ?_; refine d_o [(4, _)] rfl rfl rfl z_su rfl q_fieldAddr z_fp z_ss rfl ?_; refine d_o [(135, _)] rfl rfl rfl z_su rfl q_load z_fp z_ss rfl ?_; refine d_o [(136, _)] rfl rfl rfl z_su rfl q_full z_fp z_ss rfl ?_; refine d_o [(134, _), (137, _)] rfl rfl rfl z_su rfl q_full z_fp z_ss rfl ?_; refine d_o [(126, _), (127, _)] rfl rfl rfl z_su rfl q_full z_fp z_ss rfl ?_; refine d_o [(138, _), (139, _)] rfl rfl rfl z_su rfl q_store z_fp z_ss rfl ?_; exact d_end z_mt z_sn)) z_su ?_; clear z_ex)
          ((repeat refine WpM.seq ?_); have z_ex := (And.intro @hc (And.intro @h4 True.intro)); refine WpM.regPE [] [(0, _), (2, _), (7, _), (153, _)] (by (refine s_o [(4, _)] rfl rfl rfl z_su rfl q_fieldAddr z_fp z_ss ?_; refine s_o [(140, _)] rfl rfl rfl z_su rfl q_load z_fp z_ss ?_; refine s_o [(141, _)] rfl rfl rfl z_su rfl q_full z_fp z_ss ?_; refine s_o [(142, _)] rfl rfl rfl z_su rfl q_move z_fp z_ss ?_; refine s_wit ?_; intro z_g; (first | refine s_skip rfl z_g z_fp ?_ | (refine s_o [(0, _)] rfl z_g rfl z_su rfl q_move z_fp z_ss ?_)); clear z_g; refine s_wit ?_; intro z_g; (first | refine s_skip rfl z_g z_fp ?_ | (refine s_o [(144, _)] rfl z_g rfl z_su rfl q_move z_fp z_ss ?_)); clear z_g; refine s_wit ?_; intro z_g; (first | refine s_skip rfl z_g z_fp ?_ | (refine s_o [(145, _)] rfl z_g rfl z_su rfl q_fieldAddr z_fp z_ss ?_)); clear z_g; refine s_wit ?_; intro z_g; (first | refine s_skip rfl z_g z_fp ?_ | (refine s_o [(146, _)] rfl z_g rfl z_su rfl q_load z_fp z_ss ?_)); clear z_g; refine s_wit ?_; intro z_g; (first | refine s_skip rfl z_g z_fp ?_ | (refine s_o [(7, _)] rfl z_g rfl z_su rfl q_move z_fp z_ss ?_)); clear z_g; refine s_wit ?_; intro z_g; (first | refine s_skip rfl z_g z_fp ?_ | (refine s_o [(147, _), (148, _)] rfl z_g rfl z_su rfl q_full z_fp z_ss ?_)); clear z_g; refine s_wit ?_; intro z_g; (first | refine s_skip rfl z_g z_fp ?_ | (refine s_o [(149, _)] rfl z_g rfl z_su rfl q_load z_fp z_ss ?_)); clear z_g; refine s_wit ?_; intro z_g; (first | refine s_skip rfl z_g z_fp ?_ | (refine s_o [(2, _)] rfl z_g rfl z_su rfl q_move z_fp z_ss ?_)); clear z_g; refine s_wit ?_; intro z_g; (first | refine s_skip rfl z_g z_fp ?_ | (refine s_o [(150, _), (151, _)] rfl z_g rfl z_su rfl q_full z_fp z_ss ?_)); clear z_g; refine s_o [(143, _), (152, _)] rfl rfl rfl z_su rfl q_move z_fp z_ss ?_; exact wpS_nil ⟨rfl, rfl⟩)) z_su ?_; clear z_ex)
          ((repeat refine WpM.seq ?_); refine WpM.condF (by (simp (maxSteps := 2000000) (disch := omega) [go_sem, -List.map_map, h4])) ?_)
          refine WpM.skip ?_
          ((repeat refine WpM.seq ?_); have z_ex := True.intro; refine WpM.regPE [] [(6, _)] (by (refine s_o [] rfl rfl rfl z_su rfl q_move z_fp z_ss ?_; exact wpS_nil ⟨rfl, rfl⟩)) z_su ?_; clear z_ex)
          refine WpM.ret ?_
          refine ⟨.inr rfl, Upd.done ⟨_, (by (simp (maxSteps := 2000000) (disch := omega) [go_sem, -List.map_map, resV, resVs, resV1])), fin _ (nx2 + 25) (by omega) (by show nx2 + 25 < nx2 + _; omega) (by (simp (maxSteps := 2000000) (disch := omega) [go_sem, -List.map_map, hnil])) (by (simp (maxSteps := 2000000) (disch := omega) [go_sem, -List.map_map, hnil])) fun m q e1 e2 e3 hk => by (simp (maxSteps := 2000000) (disch := omega) [go_sem, -List.map_map, hk])⟩⟩
        · obtain ⟨w1, w2, w3, w4, w5, w6, w7, w8⟩ := hwk hnil
          have grk : r k < nx := (hO1 _ w3).2
          have hr0 : n0 ≠ r k := fun e => on0 (e ▸ w3)
          have hrL : r k ≠ L := hq6 hnil
          refine WpM.loop (fun (j : Nat) fr S => j ≤ wl.length ∧ (∀ i (h : i < wl.length), i < j → wl[i] ≠ c.arg) ∧ fr = frOf [(0, .ptr L 0), (2, .d (.int .i64 who)), (4, .ptr n0 0), (7, .d (.int .i64 k)), (8, .d (.int .i64 j))] ∧ ∃ nx2, nx ≤ nx2 ∧ S = ⟨nx2, [], G⟩) (fun j => wl.length - j) 0 (St.Le.refl _) (frLe_frOf (by (simp (maxSteps := 2000000) (disch := omega) [go_sem, -List.map_map]))) ⟨by omega, by simp, rfl, _, ?_, rfl⟩ ?_
          · omega
          rintro j fr S2 ⟨hj, hall, rfl, nx2, hnx2, rfl⟩
          ((repeat refine WpM.seq ?_); have z_ex := (And.intro @k1 (And.intro @k8 (And.intro @w1 (And.intro @hkw (And.intro @hwn True.intro))))); refine WpM.regPE [] [(0, _), (2, _), (4, _), (7, _), (8, _), (107, _)] (by (refine s_o [(8, _)] rfl rfl rfl z_su rfl q_move z_fp z_ss ?_; refine s_o [(0, _)] rfl rfl rfl z_su rfl q_move z_fp z_ss ?_; refine s_o [(99, _)] rfl rfl rfl z_su rfl q_move z_fp z_ss ?_; refine s_o [(100, _)] rfl rfl rfl z_su rfl q_fieldAddr z_fp z_ss ?_; refine s_o [(101, _)] rfl rfl rfl z_su rfl q_load z_fp z_ss ?_; refine s_o [(7, _)] rfl rfl rfl z_su rfl q_move z_fp z_ss ?_; refine s_o [(102, _), (103, _)] rfl rfl rfl z_su rfl q_full z_fp z_ss ?_; refine s_o [(104, _)] rfl rfl rfl z_su rfl q_load z_fp z_ss ?_; refine s_o [(105, _)] rfl rfl rfl z_su rfl q_full z_fp z_ss ?_; refine s_o [(98, _), (106, _)] rfl rfl rfl z_su rfl q_full z_fp z_ss ?_; exact wpS_nil ⟨rfl, rfl⟩)) z_su ?_; clear z_ex)
          by_cases hlt : j < wl.length
          · ((repeat refine WpM.seq ?_); refine WpM.condT (by (simp (maxSteps := 2000000) (disch := omega) [go_sem, -List.map_map, hlt])) ?_)
            refine WpM.skip ?_
            ((repeat refine WpM.seq ?_); refine WpM.block ?_)
            have hget : (wl.map fun t => V.d (.int .i64 t))[j]? = some (.d (.int .i64 wl[j])) := by simp [hlt]
            ((repeat refine WpM.seq ?_); have z_ex := (And.intro @k1 (And.intro @k8 (And.intro @w1 (And.intro @w2 (And.intro @hkw (And.intro @hwn (And.intro @hc (And.intro @hget (And.intro @hlt True.intro))))))))); refine WpM.drwPE [] [(0, _), (2, _), (4, _), (7, _), (8, _), (122, _)] mixed (by kernel_rfl) (by kernel_rfl) [] (by kernel_rfl) (by (refine d_o [(0, _)] rfl rfl rfl z_su rfl q_move z_fp z_ss rfl ?_; refine d_o [(110, _)] rfl rfl rfl z_su rfl q_move z_fp z_ss rfl ?_; refine d_o [(111, _)] rfl rfl rfl z_su rfl q_fieldAddr z_fp z_ss rfl ?_; refine d_o [(112, _)] rfl rfl rfl z_su rfl q_load z_fp z_ss rfl ?_; refine d_o [(7, _)] rfl rfl rfl z_su rfl q_move z_fp z_ss rfl ?_; refine d_o [(113, _), (114, _)] rfl rfl rfl z_su rfl q_full z_fp z_ss rfl ?_; refine d_o [(115, _)] rfl rfl rfl z_su rfl q_load z_fp z_ss rfl ?_; refine d_o [(8, _)] rfl rfl rfl z_su rfl q_move z_fp z_ss rfl ?_; refine d_o [(116, _), (117, _)] rfl rfl rfl z_su rfl q_full z_fp z_ss rfl ?_; refine d_o [(118, _)] rfl rfl rfl z_su rfl q_load z_fp z_ss rfl ?_; refine d_o [(4, _)] rfl rfl rfl z_su rfl q_fieldAddr z_fp z_ss rfl ?_; refine d_o [(120, _)] rfl rfl rfl z_su rfl q_load z_fp z_ss rfl ?_; refine d_o [(119, _), (121, _)] rfl rfl rfl z_su rfl q_full z_fp z_ss rfl ?_; exact d_end z_mt z_sn)) z_su ?_; clear z_ex)
            by_cases he : wl[j] = c.arg
            · ((repeat refine WpM.seq ?_); refine WpM.condT (by (simp (maxSteps := 2000000) (disch := omega) [go_sem, -List.map_map, he])) ?_)
              rw [if_pos (by rw [← he]; exact List.getElem_mem _)]
              ((repeat refine WpM.seq ?_); have z_ex := True.intro; refine WpM.regPE [] [(6, _)] (by (refine s_o [] rfl rfl rfl z_su rfl q_move z_fp z_ss ?_; exact wpS_nil ⟨rfl, rfl⟩)) z_su ?_; clear z_ex)
              refine WpM.ret ?_
              refine ⟨.inr rfl, Upd.done ⟨_, (by (simp (maxSteps := 2000000) (disch := omega) [go_sem, -List.map_map, resV, resVs, resV1])), (by show n0 ≤ nx2 + _; omega), fun m k ho hk => ?_, rfl, by decide⟩⟩
              obtain ⟨h1, h2, h3⟩ := oldO m k ho hk
              (simp (maxSteps := 2000000) (disch := omega) [go_sem, -List.map_map, h2])
            · ((repeat refine WpM.seq ?_); refine WpM.condF (by (simp (maxSteps := 2000000) (disch := omega) [go_sem, -List.map_map, he])) ?_)
              refine WpM.skip ?_
              ((repeat refine WpM.seq ?_); have z_ex := (And.intro @wrap_id True.intro); refine WpM.regPE [] [(0, _), (2, _), (4, _), (7, _), (8, _)] (by (refine s_o [(8, _)] rfl rfl rfl z_su rfl q_move z_fp z_ss ?_; refine s_o [(108, _)] rfl rfl rfl z_su rfl q_full z_fp z_ss ?_; refine s_o [(109, _)] rfl rfl rfl z_su rfl q_move z_fp z_ss ?_; exact wpS_nil ⟨rfl, rfl⟩)) z_su ?_; clear z_ex)
              have hall' : ∀ i (h : i < wl.length), i < j + 1 → wl[i] ≠ c.arg := fun i h hi => by
                rcases Nat.lt_or_ge i j with h' | h'
                · exact hall i h h'
                · obtain rfl : i = j := by omega
                  exact he
              refine round_end (x' := j + 1) (St.Le.refl _) (frLe_frOf (by (simp (maxSteps := 2000000) (disch := omega) [go_sem, -List.map_map, wrap_id]))) ⟨by omega, hall', rfl, _, ?_, rfl⟩ (by omega)
              omega
          · ((repeat refine WpM.seq ?_); refine WpM.condF (by (simp (maxSteps := 2000000) (disch := omega) [go_sem, -List.map_map, hlt])) ?_)
            (refine WpM.exit ?_; (repeat (with_reducible (first | refine thenM_exit ?_ | refine blockM_eq ?_ | refine blockM_ne (by decide) ?_))))
            obtain rfl : j = wl.length := by omega
            have hnin : c.arg ∉ wl := fun h => by obtain ⟨i, hi, e⟩ := List.getElem_of_mem h; exact hall i hi hi e
            rw [if_neg hnin]
            have htk : (wl.map fun t => V.d (.int .i64 t)).take wl.length = wl.map fun t => V.d (.int .i64 t) := List.take_of_length_le (by simp)
            ((repeat refine WpM.seq ?_); have z_ex := (And.intro @k1 (And.intro @k8 (And.intro @w1 (And.intro @w2 (And.intro @hkw (And.intro @hwn (And.intro @hc (And.intro @htk True.intro)))))))); refine WpM.drwPE [] [(0, _), (2, _), (4, _), (7, _)] mixed (by kernel_rfl) (by kernel_rfl) [(3, 14), (8, 14), (11, 14), (3, 15)] (by kernel_rfl) (by (refine d_o [(0, _)] rfl rfl rfl z_su rfl q_move z_fp z_ss rfl ?_; refine d_o [(123, _)] rfl rfl rfl z_su rfl q_move z_fp z_ss rfl ?_; refine d_o [(124, _)] rfl rfl rfl z_su rfl q_fieldAddr z_fp z_ss rfl ?_; refine d_o [(125, _)] rfl rfl rfl z_su rfl q_load z_fp z_ss rfl ?_; refine d_o [(7, _)] rfl rfl rfl z_su rfl q_move z_fp z_ss rfl ?_; refine d_o [(0, _)] rfl rfl rfl z_su rfl q_move z_fp z_ss rfl ?_; refine d_o [(128, _)] rfl rfl rfl z_su rfl q_move z_fp z_ss rfl ?_; refine d_o [(129, _)] rfl rfl rfl z_su rfl q_fieldAddr z_fp z_ss rfl ?_; refine d_o [(130, _)] rfl rfl rfl z_su rfl q_load z_fp z_ss rfl ?_; refine d_o [(7, _)] rfl rfl rfl z_su rfl q_move z_fp z_ss rfl ?_; refine d_o [(131, _), (132, _)] rfl rfl rfl z_su rfl q_full z_fp z_ss rfl ?_; refine d_o [(133, _)] rfl rfl rfl z_su rfl q_load z_fp z_ss rfl ?_; refine d_o [(4, _)] rfl rfl rfl z_su rfl q_fieldAddr z_fp z_ss rfl ?_; refine d_o [(135, _)] rfl rfl rfl z_su rfl q_load z_fp z_ss rfl ?_; refine d_o [(136, _)] rfl rfl rfl z_su rfl q_full z_fp z_ss rfl ?_; refine d_o [(134, _), (137, _)] rfl rfl rfl z_su rfl q_full z_fp z_ss rfl ?_; refine d_o [(126, _), (127, _)] rfl rfl rfl z_su rfl q_full z_fp z_ss rfl ?_; refine d_o [(138, _), (139, _)] rfl rfl rfl z_su rfl q_store z_fp z_ss rfl ?_; exact d_end z_mt z_sn)) z_su ?_; clear z_ex)
            ((repeat refine WpM.seq ?_); have z_ex := (And.intro @hc (And.intro @h4 True.intro)); refine WpM.regPE [] [(0, _), (2, _), (7, _), (153, _)] (by (refine s_o [(4, _)] rfl rfl rfl z_su rfl q_fieldAddr z_fp z_ss ?_; refine s_o [(140, _)] rfl rfl rfl z_su rfl q_load z_fp z_ss ?_; refine s_o [(141, _)] rfl rfl rfl z_su rfl q_full z_fp z_ss ?_; refine s_o [(142, _)] rfl rfl rfl z_su rfl q_move z_fp z_ss ?_; refine s_wit ?_; intro z_g; (first | refine s_skip rfl z_g z_fp ?_ | (refine s_o [(0, _)] rfl z_g rfl z_su rfl q_move z_fp z_ss ?_)); clear z_g; refine s_wit ?_; intro z_g; (first | refine s_skip rfl z_g z_fp ?_ | (refine s_o [(144, _)] rfl z_g rfl z_su rfl q_move z_fp z_ss ?_)); clear z_g; refine s_wit ?_; intro z_g; (first | refine s_skip rfl z_g z_fp ?_ | (refine s_o [(145, _)] rfl z_g rfl z_su rfl q_fieldAddr z_fp z_ss ?_)); clear z_g; refine s_wit ?_; intro z_g; (first | refine s_skip rfl z_g z_fp ?_ | (refine s_o [(146, _)] rfl z_g rfl z_su rfl q_load z_fp z_ss ?_)); clear z_g; refine s_wit ?_; intro z_g; (first | refine s_skip rfl z_g z_fp ?_ | (refine s_o [(7, _)] rfl z_g rfl z_su rfl q_move z_fp z_ss ?_)); clear z_g; refine s_wit ?_; intro z_g; (first | refine s_skip rfl z_g z_fp ?_ | (refine s_o [(147, _), (148, _)] rfl z_g rfl z_su rfl q_full z_fp z_ss ?_)); clear z_g; refine s_wit ?_; intro z_g; (first | refine s_skip rfl z_g z_fp ?_ | (refine s_o [(149, _)] rfl z_g rfl z_su rfl q_load z_fp z_ss ?_)); clear z_g; refine s_wit ?_; intro z_g; (first | refine s_skip rfl z_g z_fp ?_ | (refine s_o [(2, _)] rfl z_g rfl z_su rfl q_move z_fp z_ss ?_)); clear z_g; refine s_wit ?_; intro z_g; (first | refine s_skip rfl z_g z_fp ?_ | (refine s_o [(150, _), (151, _)] rfl z_g rfl z_su rfl q_full z_fp z_ss ?_)); clear z_g; refine s_o [(143, _), (152, _)] rfl rfl rfl z_su rfl q_move z_fp z_ss ?_; exact wpS_nil ⟨rfl, rfl⟩)) z_su ?_; clear z_ex)
            ((repeat refine WpM.seq ?_); refine WpM.condF (by (simp (maxSteps := 2000000) (disch := omega) [go_sem, -List.map_map, h4])) ?_)
            refine WpM.skip ?_
            ((repeat refine WpM.seq ?_); have z_ex := True.intro; refine WpM.regPE [] [(6, _)] (by (refine s_o [] rfl rfl rfl z_su rfl q_move z_fp z_ss ?_; exact wpS_nil ⟨rfl, rfl⟩)) z_su ?_; clear z_ex)
            refine WpM.ret ?_
            refine ⟨.inr rfl, Upd.done ⟨_, (by (simp (maxSteps := 2000000) (disch := omega) [go_sem, -List.map_map, resV, resVs, resV1])), fin _ (nx2 + 25) (by omega) (by show nx2 + 25 < nx2 + _; omega) (by (simp (maxSteps := 2000000) (disch := omega) [go_sem, -List.map_map])) (by (simp (maxSteps := 2000000) (disch := omega) [go_sem, -List.map_map])) fun m q e1 e2 e3 hk => by have e4 := e2 hnil; (simp (maxSteps := 2000000) (disch := omega) [go_sem, -List.map_map, hk])⟩⟩
    · rw [if_neg h23]
      have h2 : ¬ c.kind = 2 := fun h => h23 (.inl h)
      have h3 : ¬ c.kind = 3 := fun h => h23 (.inr h)
      ((repeat refine WpM.seq ?_); have z_ex := (And.intro @hc (And.intro @h2 (And.intro @h3 True.intro))); refine WpM.regPE [] [(0, _), (2, _), (4, _), (7, _), (97, _)] (by (refine s_o [(4, _)] rfl rfl rfl z_su rfl q_fieldAddr z_fp z_ss ?_; refine s_o [(90, _)] rfl rfl rfl z_su rfl q_load z_fp z_ss ?_; refine s_o [(91, _)] rfl rfl rfl z_su rfl q_full z_fp z_ss ?_; refine s_o [(92, _)] rfl rfl rfl z_su rfl q_move z_fp z_ss ?_; refine s_wit ?_; intro z_g; (first | refine s_skip rfl z_g z_fp ?_ | (refine s_o [(4, _)] rfl z_g rfl z_su rfl q_fieldAddr z_fp z_ss ?_)); clear z_g; refine s_wit ?_; intro z_g; (first | refine s_skip rfl z_g z_fp ?_ | (refine s_o [(94, _)] rfl z_g rfl z_su rfl q_load z_fp z_ss ?_)); clear z_g; refine s_wit ?_; intro z_g; (first | refine s_skip rfl z_g z_fp ?_ | (refine s_o [(95, _)] rfl z_g rfl z_su rfl q_full z_fp z_ss ?_)); clear z_g; refine s_o [(93, _), (96, _)] rfl rfl rfl z_su rfl q_move z_fp z_ss ?_; exact wpS_nil ⟨rfl, rfl⟩)) z_su ?_; clear z_ex)
      ((repeat refine WpM.seq ?_); refine WpM.condF (by (simp (maxSteps := 2000000) (disch := omega) [go_sem, -List.map_map, h3])) ?_)
      refine WpM.skip ?_
      by_cases h4 : c.kind = 4
      · rw [if_pos h4]
        have hlen8 := hw1.ilen k
        obtain ⟨l, hl⟩ : ∃ l, l = b1.incs.getD k [] := ⟨_, rfl⟩
        have hgl : b1.incs[k] = l := by rw [hl]; simp [hki]
        rw [← hl] at hlen8 ⊢
        obtain ⟨x0, hx0⟩ : ∃ x, x = lastD l := ⟨_, rfl⟩
        obtain ⟨len, hlen⟩ : ∃ n, n = l.length := ⟨_, rfl⟩
        have hg1 : (b1.incs.map fun l => V.d (.int .i64 (lastD l)))[k]? = some (.d (.int .i64 x0)) := by simp [hki, hgl, hx0]
        have hg2 : (b1.incs.map fun l => V.d (.int .i64 l.length))[k]? = some (.d (.int .i64 len)) := by simp [hki, hgl, hlen]
        obtain ⟨R1, hR1⟩ : ∃ R, R = b1.incs.map fun l => V.d (.int .i64 (lastD l)) := ⟨_, rfl⟩
        obtain ⟨R2, hR2⟩ : ∃ R, R = b1.incs.map fun l => V.d (.int .i64 l.length) := ⟨_, rfl⟩
        have hr1 : R1.length = b1.incs.length := by rw [hR1]; simp
        have hr2 : R2.length = b1.incs.length := by rw [hR2]; simp
        have hs2 : ∀ v : V, (R2.set k v)[k]? = some v := fun v => by simp [hr2, hki]
        rw [← hR1] at hg1 k11
        rw [← hR2] at hg2 k10
        by_cases hxw : x0 = who
        · have hinc : incNext l who = l := by
            rw [incNext]
            cases hcl : l.getLast? with
            | none => rw [hx0, lastD, hcl] at hxw; simp at hxw; omega
            | some y => rw [hx0, lastD, hcl] at hxw; simp at hxw; rw [if_pos (by rw [hxw])]
          rw [hinc, if_neg (by omega), hl, set_self]
          ((repeat refine WpM.seq ?_); have z_ex := (And.intro @hc (And.intro @h4 (And.intro @k1 (And.intro @k11 (And.intro @hg1 (And.intro @hki (And.intro @hr1 (And.intro @hxw True.intro)))))))); refine WpM.regPE [] [(0, _), (2, _), (7, _), (153, _)] (by (refine s_o [(4, _)] rfl rfl rfl z_su rfl q_fieldAddr z_fp z_ss ?_; refine s_o [(140, _)] rfl rfl rfl z_su rfl q_load z_fp z_ss ?_; refine s_o [(141, _)] rfl rfl rfl z_su rfl q_full z_fp z_ss ?_; refine s_o [(142, _)] rfl rfl rfl z_su rfl q_move z_fp z_ss ?_; refine s_wit ?_; intro z_g; (first | refine s_skip rfl z_g z_fp ?_ | (refine s_o [(0, _)] rfl z_g rfl z_su rfl q_move z_fp z_ss ?_)); clear z_g; refine s_wit ?_; intro z_g; (first | refine s_skip rfl z_g z_fp ?_ | (refine s_o [(144, _)] rfl z_g rfl z_su rfl q_move z_fp z_ss ?_)); clear z_g; refine s_wit ?_; intro z_g; (first | refine s_skip rfl z_g z_fp ?_ | (refine s_o [(145, _)] rfl z_g rfl z_su rfl q_fieldAddr z_fp z_ss ?_)); clear z_g; refine s_wit ?_; intro z_g; (first | refine s_skip rfl z_g z_fp ?_ | (refine s_o [(146, _)] rfl z_g rfl z_su rfl q_load z_fp z_ss ?_)); clear z_g; refine s_wit ?_; intro z_g; (first | refine s_skip rfl z_g z_fp ?_ | (refine s_o [(7, _)] rfl z_g rfl z_su rfl q_move z_fp z_ss ?_)); clear z_g; refine s_wit ?_; intro z_g; (first | refine s_skip rfl z_g z_fp ?_ | (refine s_o [(147, _), (148, _)] rfl z_g rfl z_su rfl q_full z_fp z_ss ?_)); clear z_g; refine s_wit ?_; intro z_g; (first | refine s_skip rfl z_g z_fp ?_ | (refine s_o [(149, _)] rfl z_g rfl z_su rfl q_load z_fp z_ss ?_)); clear z_g; refine s_wit ?_; intro z_g; (first | refine s_skip rfl z_g z_fp ?_ | (refine s_o [(2, _)] rfl z_g rfl z_su rfl q_move z_fp z_ss ?_)); clear z_g; refine s_wit ?_; intro z_g; (first | refine s_skip rfl z_g z_fp ?_ | (refine s_o [(150, _), (151, _)] rfl z_g rfl z_su rfl q_full z_fp z_ss ?_)); clear z_g; refine s_o [(143, _), (152, _)] rfl rfl rfl z_su rfl q_move z_fp z_ss ?_; exact wpS_nil ⟨rfl, rfl⟩)) z_su ?_; clear z_ex)
          ((repeat refine WpM.seq ?_); refine WpM.condF (by (simp (maxSteps := 2000000) (disch := omega) [go_sem, -List.map_map, hxw])) ?_)
          refine WpM.skip ?_
          ((repeat refine WpM.seq ?_); have z_ex := True.intro; refine WpM.regPE [] [(6, _)] (by (refine s_o [] rfl rfl rfl z_su rfl q_move z_fp z_ss ?_; exact wpS_nil ⟨rfl, rfl⟩)) z_su ?_; clear z_ex)
          refine WpM.ret ?_
          refine ⟨.inr rfl, Upd.done ⟨_, (by (simp (maxSteps := 2000000) (disch := omega) [go_sem, -List.map_map, resV, resVs, resV1])), (by show n0 ≤ nx + _; omega), fun m k ho hk => ?_, rfl, O1, fun m hm => ⟨(hO1 m hm).1.imp id (fun h => by omega), ?_⟩, BookAt.same (G := G) ⟨nk, nt, nw, ni, nl, ws, r, hN⟩ fun m k ho hk => ?_⟩⟩
          · obtain ⟨h1, h2, h3⟩ := oldO m k ho hk
            (simp (maxSteps := 2000000) (disch := omega) [go_sem, -List.map_map, h2])
          · have := (hO1 m hm).2; show m < nx + _; omega
          · have h2 := (hO1 _ ho).2
            (simp (maxSteps := 2000000) (disch := omega) [go_sem, -List.map_map, hk])
        · have hinc : incNext l who = b1.incs.getD k [] ++ [who] := by
            rw [incNext, ← hl, if_neg]
            intro hcl
            rw [hx0, lastD, hcl] at hxw
            exact hxw rfl
          have hill : (b1.incs.getD k [] ++ [who]).length = len + 1 := by rw [← hl]; simp [hlen]
          rw [hinc, hill]
          ((repeat refine WpM.seq ?_); have z_ex := (And.intro @hc (And.intro @h4 (And.intro @k1 (And.intro @k11 (And.intro @hg1 (And.intro @hki (And.intro @hr1 (And.intro @hxw True.intro)))))))); refine WpM.regPE [] [(0, _), (2, _), (7, _), (153, _)] (by (refine s_o [(4, _)] rfl rfl rfl z_su rfl q_fieldAddr z_fp z_ss ?_; refine s_o [(140, _)] rfl rfl rfl z_su rfl q_load z_fp z_ss ?_; refine s_o [(141, _)] rfl rfl rfl z_su rfl q_full z_fp z_ss ?_; refine s_o [(142, _)] rfl rfl rfl z_su rfl q_move z_fp z_ss ?_; refine s_wit ?_; intro z_g; (first | refine s_skip rfl z_g z_fp ?_ | (refine s_o [(0, _)] rfl z_g rfl z_su rfl q_move z_fp z_ss ?_)); clear z_g; refine s_wit ?_; intro z_g; (first | refine s_skip rfl z_g z_fp ?_ | (refine s_o [(144, _)] rfl z_g rfl z_su rfl q_move z_fp z_ss ?_)); clear z_g; refine s_wit ?_; intro z_g; (first | refine s_skip rfl z_g z_fp ?_ | (refine s_o [(145, _)] rfl z_g rfl z_su rfl q_fieldAddr z_fp z_ss ?_)); clear z_g; refine s_wit ?_; intro z_g; (first | refine s_skip rfl z_g z_fp ?_ | (refine s_o [(146, _)] rfl z_g rfl z_su rfl q_load z_fp z_ss ?_)); clear z_g; refine s_wit ?_; intro z_g; (first | refine s_skip rfl z_g z_fp ?_ | (refine s_o [(7, _)] rfl z_g rfl z_su rfl q_move z_fp z_ss ?_)); clear z_g; refine s_wit ?_; intro z_g; (first | refine s_skip rfl z_g z_fp ?_ | (refine s_o [(147, _), (148, _)] rfl z_g rfl z_su rfl q_full z_fp z_ss ?_)); clear z_g; refine s_wit ?_; intro z_g; (first | refine s_skip rfl z_g z_fp ?_ | (refine s_o [(149, _)] rfl z_g rfl z_su rfl q_load z_fp z_ss ?_)); clear z_g; refine s_wit ?_; intro z_g; (first | refine s_skip rfl z_g z_fp ?_ | (refine s_o [(2, _)] rfl z_g rfl z_su rfl q_move z_fp z_ss ?_)); clear z_g; refine s_wit ?_; intro z_g; (first | refine s_skip rfl z_g z_fp ?_ | (refine s_o [(150, _), (151, _)] rfl z_g rfl z_su rfl q_full z_fp z_ss ?_)); clear z_g; refine s_o [(143, _), (152, _)] rfl rfl rfl z_su rfl q_move z_fp z_ss ?_; exact wpS_nil ⟨rfl, rfl⟩)) z_su ?_; clear z_ex)
          ((repeat refine WpM.seq ?_); refine WpM.condT (by (simp (maxSteps := 2000000) (disch := omega) [go_sem, -List.map_map, hxw])) ?_)
          ((repeat refine WpM.seq ?_); have z_ex := (And.intro @k1 (And.intro @k11 (And.intro @hki (And.intro @hr1 (And.intro @hg1 True.intro))))); refine WpM.regPE [] [(0, _), (7, _)] (by (refine s_o [(0, _)] rfl rfl rfl z_su rfl q_move z_fp z_ss ?_; refine s_o [(154, _)] rfl rfl rfl z_su rfl q_move z_fp z_ss ?_; refine s_o [(155, _)] rfl rfl rfl z_su rfl q_fieldAddr z_fp z_ss ?_; refine s_o [(156, _)] rfl rfl rfl z_su rfl q_load z_fp z_ss ?_; refine s_o [(7, _)] rfl rfl rfl z_su rfl q_move z_fp z_ss ?_; refine s_o [(2, _)] rfl rfl rfl z_su rfl q_move z_fp z_ss ?_; refine s_o [(157, _), (158, _)] rfl rfl rfl z_su rfl q_full z_fp z_ss ?_; refine s_o [(159, _), (160, _)] rfl rfl rfl z_su rfl q_store z_fp z_ss ?_; exact wpS_nil ⟨rfl, rfl⟩)) z_su ?_; clear z_ex)
          ((repeat refine WpM.seq ?_); have z_ex := (And.intro @k1 (And.intro @k10 (And.intro @hki (And.intro @hr2 (And.intro @hg2 (And.intro @wrap_id True.intro)))))); refine WpM.regPE [] [(0, _), (7, _)] (by (refine s_o [(0, _)] rfl rfl rfl z_su rfl q_move z_fp z_ss ?_; refine s_o [(161, _)] rfl rfl rfl z_su rfl q_move z_fp z_ss ?_; refine s_o [(162, _)] rfl rfl rfl z_su rfl q_fieldAddr z_fp z_ss ?_; refine s_o [(163, _)] rfl rfl rfl z_su rfl q_load z_fp z_ss ?_; refine s_o [(7, _)] rfl rfl rfl z_su rfl q_move z_fp z_ss ?_; refine s_o [(164, _), (165, _)] rfl rfl rfl z_su rfl q_full z_fp z_ss ?_; refine s_o [(166, _)] rfl rfl rfl z_su rfl q_load z_fp z_ss ?_; refine s_o [(167, _)] rfl rfl rfl z_su rfl q_full z_fp z_ss ?_; refine s_o [(164, _), (165, _)] rfl rfl rfl z_su rfl q_full z_fp z_ss ?_; refine s_o [(168, _), (169, _)] rfl rfl rfl z_su rfl q_store z_fp z_ss ?_; exact wpS_nil ⟨rfl, rfl⟩)) z_su ?_; clear z_ex)
          ((repeat refine WpM.seq ?_); have z_ex := (And.intro @k1 (And.intro @k10 (And.intro @hki (And.intro @hr2 (And.intro @hs2 True.intro))))); refine WpM.regPE [] [(177, _)] (by (refine s_o [(0, _)] rfl rfl rfl z_su rfl q_move z_fp z_ss ?_; refine s_o [(170, _)] rfl rfl rfl z_su rfl q_move z_fp z_ss ?_; refine s_o [(171, _)] rfl rfl rfl z_su rfl q_fieldAddr z_fp z_ss ?_; refine s_o [(172, _)] rfl rfl rfl z_su rfl q_load z_fp z_ss ?_; refine s_o [(7, _)] rfl rfl rfl z_su rfl q_move z_fp z_ss ?_; refine s_o [(173, _), (174, _)] rfl rfl rfl z_su rfl q_full z_fp z_ss ?_; refine s_o [(175, _)] rfl rfl rfl z_su rfl q_load z_fp z_ss ?_; refine s_o [(176, _)] rfl rfl rfl z_su rfl q_full z_fp z_ss ?_; exact wpS_nil ⟨rfl, rfl⟩)) z_su ?_; clear z_ex)
          by_cases h8 : 8 < len + 1
          · rw [if_pos h8]
            have h8' : (8 : Int) < len + 1 := by omega
            ((repeat refine WpM.seq ?_); refine WpM.condT (by (simp (maxSteps := 2000000) (disch := omega) [go_sem, -List.map_map, h8'])) ?_)
            ((repeat refine WpM.seq ?_); have z_ex := True.intro; refine WpM.regPE [] [(6, _)] (by (refine s_o [] rfl rfl rfl z_su rfl q_move z_fp z_ss ?_; exact wpS_nil ⟨rfl, rfl⟩)) z_su ?_; clear z_ex)
            refine WpM.ret ?_
            refine ⟨.inr rfl, Upd.done ⟨_, (by (simp (maxSteps := 2000000) (disch := omega) [go_sem, -List.map_map, resV, resVs, resV1])), (by show n0 ≤ nx + _; omega), fun m k ho hk => ?_, rfl, by decide⟩⟩
            have h5 := onO _ hN.oi m k ho hk
            have h6 := onO _ hN.ol m k ho hk
            obtain ⟨h1, h2, h3⟩ := oldO m k ho hk
            (simp (maxSteps := 2000000) (disch := omega) [go_sem, -List.map_map, h2])
          · rw [if_neg h8]
            have h8' : (len : Int) + 1 ≤ 8 := by omega
            ((repeat refine WpM.seq ?_); refine WpM.condF (by (simp (maxSteps := 2000000) (disch := omega) [go_sem, -List.map_map, h8'])) ?_)
            refine WpM.skip ?_
            ((repeat refine WpM.seq ?_); have z_ex := True.intro; refine WpM.regPE [] [(6, _)] (by (refine s_o [] rfl rfl rfl z_su rfl q_move z_fp z_ss ?_; exact wpS_nil ⟨rfl, rfl⟩)) z_su ?_; clear z_ex)
            refine WpM.ret ?_
            refine ⟨.inr rfl, Upd.done ⟨_, (by (simp (maxSteps := 2000000) (disch := omega) [go_sem, -List.map_map, resV, resVs, resV1])), (by show n0 ≤ nx + _; omega), fun m k ho hk => ?_, rfl, O1, fun m hm => ⟨(hO1 m hm).1.imp id (fun h => by omega), ?_⟩, hN.inc hw1 (by rw [← hl, ← hR2, ← hlen]; (simp (maxSteps := 2000000) (disch := omega) [go_sem, -List.map_map])) (by rw [← hR1]; (simp (maxSteps := 2000000) (disch := omega) [go_sem, -List.map_map])) fun m q h5 h6 ho hk => ?_⟩⟩
            · have h5 := onO _ hN.oi m k ho hk
              have h6 := onO _ hN.ol m k ho hk
              obtain ⟨h1, h2, h3⟩ := oldO m k ho hk
              (simp (maxSteps := 2000000) (disch := omega) [go_sem, -List.map_map, h2])
            · have := (hO1 m hm).2; show m < nx + _; omega
            · have h2 := (hO1 _ ho).2
              (simp (maxSteps := 2000000) (disch := omega) [go_sem, -List.map_map, hk])
      · rw [if_neg h4]
        ((repeat refine WpM.seq ?_); have z_ex := (And.intro @hc (And.intro @h4 True.intro)); refine WpM.regPE [] [(0, _), (2, _), (7, _), (153, _)] (by (refine s_o [(4, _)] rfl rfl rfl z_su rfl q_fieldAddr z_fp z_ss ?_; refine s_o [(140, _)] rfl rfl rfl z_su rfl q_load z_fp z_ss ?_; refine s_o [(141, _)] rfl rfl rfl z_su rfl q_full z_fp z_ss ?_; refine s_o [(142, _)] rfl rfl rfl z_su rfl q_move z_fp z_ss ?_; refine s_wit ?_; intro z_g; (first | refine s_skip rfl z_g z_fp ?_ | (refine s_o [(0, _)] rfl z_g rfl z_su rfl q_move z_fp z_ss ?_)); clear z_g; refine s_wit ?_; intro z_g; (first | refine s_skip rfl z_g z_fp ?_ | (refine s_o [(144, _)] rfl z_g rfl z_su rfl q_move z_fp z_ss ?_)); clear z_g; refine s_wit ?_; intro z_g; (first | refine s_skip rfl z_g z_fp ?_ | (refine s_o [(145, _)] rfl z_g rfl z_su rfl q_fieldAddr z_fp z_ss ?_)); clear z_g; refine s_wit ?_; intro z_g; (first | refine s_skip rfl z_g z_fp ?_ | (refine s_o [(146, _)] rfl z_g rfl z_su rfl q_load z_fp z_ss ?_)); clear z_g; refine s_wit ?_; intro z_g; (first | refine s_skip rfl z_g z_fp ?_ | (refine s_o [(7, _)] rfl z_g rfl z_su rfl q_move z_fp z_ss ?_)); clear z_g; refine s_wit ?_; intro z_g; (first | refine s_skip rfl z_g z_fp ?_ | (refine s_o [(147, _), (148, _)] rfl z_g rfl z_su rfl q_full z_fp z_ss ?_)); clear z_g; refine s_wit ?_; intro z_g; (first | refine s_skip rfl z_g z_fp ?_ | (refine s_o [(149, _)] rfl z_g rfl z_su rfl q_load z_fp z_ss ?_)); clear z_g; refine s_wit ?_; intro z_g; (first | refine s_skip rfl z_g z_fp ?_ | (refine s_o [(2, _)] rfl z_g rfl z_su rfl q_move z_fp z_ss ?_)); clear z_g; refine s_wit ?_; intro z_g; (first | refine s_skip rfl z_g z_fp ?_ | (refine s_o [(150, _), (151, _)] rfl z_g rfl z_su rfl q_full z_fp z_ss ?_)); clear z_g; refine s_o [(143, _), (152, _)] rfl rfl rfl z_su rfl q_move z_fp z_ss ?_; exact wpS_nil ⟨rfl, rfl⟩)) z_su ?_; clear z_ex)
        ((repeat refine WpM.seq ?_); refine WpM.condF (by (simp (maxSteps := 2000000) (disch := omega) [go_sem, -List.map_map, h4])) ?_)
        refine WpM.skip ?_
        ((repeat refine WpM.seq ?_); have z_ex := True.intro; refine WpM.regPE [] [(6, _)] (by (refine s_o [] rfl rfl rfl z_su rfl q_move z_fp z_ss ?_; exact wpS_nil ⟨rfl, rfl⟩)) z_su ?_; clear z_ex)
        refine WpM.ret ?_
        refine ⟨.inr rfl, Upd.done ⟨_, (by (simp (maxSteps := 2000000) (disch := omega) [go_sem, -List.map_map, resV, resVs, resV1])), (by show n0 ≤ nx + _; omega), fun m k ho hk => ?_, rfl, O1, fun m hm => ⟨(hO1 m hm).1.imp id (fun h => by omega), ?_⟩, BookAt.same (G := G) ⟨nk, nt, nw, ni, nl, ws, r, hN⟩ fun m k ho hk => ?_⟩⟩
        · obtain ⟨h1, h2, h3⟩ := oldO m k ho hk
          (simp (maxSteps := 2000000) (disch := omega) [go_sem, -List.map_map, h2])
        · have := (hO1 m hm).2; show m < nx + _; omega
        · have h2 := (hO1 _ ho).2
          (simp (maxSteps := 2000000) (disch := omega) [go_sem, -List.map_map, hk])
  · ((repeat refine WpM.seq ?_); refine WpM.condT (by (simp (maxSteps := 2000000) (disch := omega) [go_sem, -List.map_map, hty])) ?_)
    have hput : putB b1 k c who = .error 50 := by rw [putB, ← hty0, if_pos hty]
    rw [hput]
    ((repeat refine WpM.seq ?_); have z_ex := True.intro; refine WpM.regPE [] [(6, _)] (by (refine s_o [] rfl rfl rfl z_su rfl q_move z_fp z_ss ?_; exact wpS_nil ⟨rfl, rfl⟩)) z_su ?_; clear z_ex)
    refine WpM.ret ?_
    refine ⟨.inr rfl, Upd.done ⟨_, (by (simp (maxSteps := 2000000) (disch := omega) [go_sem, -List.map_map, resV, resVs, resV1])), (by show n0 ≤ nx + _; omega), fun m k ho hk => ?_, rfl, by decide⟩⟩
    obtain ⟨h1, h2, h3⟩ := oldO m k ho hk
    (simp (maxSteps := 2000000) (disch := omega) [go_sem, -List.map_map, h2])
end Go.Proofs.Ytjjmedgibcffhaa
