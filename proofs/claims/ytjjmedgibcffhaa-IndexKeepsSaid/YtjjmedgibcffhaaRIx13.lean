/- index.Check. -/
import Derived.Test.YtjjmedgibcffhaaROp2
import Derived.Test.YtjjmedgibcffhaaRIx12
import Derived.Test.YtjjmedgibcffhaaRIx8
namespace Go.Proofs.Ytjjmedgibcffhaa
open Go.RowKit M
set_option linter.unusedSimpArgs false
set_option linter.unusedVariables false
def histBox (h : HistD) : Blk := .box [.d (strs h.keys), .d (.sl (h.txns.map encTxn))]
theorem errno_f : errnoOf false = 1 := rfl
theorem errno_t : errnoOf true = 0 := rfl
theorem size_zero {s : ByteArray} : s = ⟨#[]⟩ ↔ s.size = 0 := by
  constructor
  · rintro rfl; rfl
  · intro h
    obtain ⟨d⟩ := s
    have : d.size = 0 := h
    simpa using this
set_option maxHeartbeats 8000000 in
theorem check32 (h : HistD) (hh : HistOk h) : PureC Try.prog 32 [.d (encHist h)] (.d (.int .i64 (errnoOf (checkB h)))) := by
  intro S
  refine CallM.pure' (by rfl) (CallM.start (n := 86) Try.func32 rfl rfl (by simp) (by simp only [argL, Nat.reduceAdd] <;> rfl) ?_)
  intro hH
  obtain ⟨H, hHe⟩ : ∃ H, H = S.get := ⟨_, rfl⟩
  obtain ⟨n0, hne⟩ : ∃ n0, n0 = S.next := ⟨_, rfl⟩
  rw [← hHe, ← hne] at hH ⊢
  have hb := hh.b
  have hb1 := hb.keys
  have hb2 := hb.len
  ((repeat refine WpM.seq ?_); have z_ex := (And.intro @encHist.eq_1 True.intro); refine WpM.regPE [] [(1, _)] (by (refine s_b [(0, _)] ?_; refine s_m [] ?_; exact wpS_nil ⟨rfl, rfl⟩)) z_su ?_; clear z_ex)
  by_cases hk32 : 32 < h.keys.length
  · have hr : checkB h = false := by simp [checkB, namesB, Nat.not_le.2 hk32]
    rw [hr, errno_f]
    have hk32' : (32 : Int) < h.keys.length := by omega
    ((repeat refine WpM.seq ?_); have z_ex := (And.intro @hk32' True.intro); refine WpM.regPE [] [(1, _), (21, _)] (by (refine s_f [(1, _)] ?_; refine s_l [(12, _)] ?_; refine s_q [(13, _)] ?_; refine s_q [(14, _)] ?_; refine s_m [(15, _)] ?_; refine s_wit ?_; intro z_g; (first | refine s_skip rfl z_g z_fp ?_ | (refine s_f [(1, _)] ?_ (hg := z_g))); clear z_g; refine s_wit ?_; intro z_g; (first | refine s_skip rfl z_g z_fp ?_ | (refine s_l [(17, _)] ?_ (hg := z_g))); clear z_g; refine s_wit ?_; intro z_g; (first | refine s_skip rfl z_g z_fp ?_ | (refine s_q [(18, _)] ?_ (hg := z_g))); clear z_g; refine s_wit ?_; intro z_g; (first | refine s_skip rfl z_g z_fp ?_ | (refine s_q [(19, _)] ?_ (hg := z_g))); clear z_g; refine s_m [(16, _), (20, _)] ?_; exact wpS_nil ⟨rfl, rfl⟩)) z_su ?_; clear z_ex)
    ((repeat refine WpM.seq ?_); refine WpM.condT (by (simp (maxSteps := 2000000) (disch := omega) [go_sem, -List.map_map, hk32'])) ?_)
    ((repeat refine WpM.seq ?_); have z_ex := True.intro; refine WpM.regPE [] [(2, _)] (by (refine s_m [] ?_; exact wpS_nil ⟨rfl, rfl⟩)) z_su ?_; clear z_ex)
    refine WpM.ret ?_
    exact ⟨.inr rfl, Upd.done ⟨_, (by (simp (maxSteps := 2000000) (disch := omega) [go_sem, -List.map_map, resV, resVs, resV1])), rfl, fun m k _ hk => by have := hH _ _ hk; (simp (maxSteps := 2000000) (disch := omega) [go_sem, -List.map_map, hk])⟩⟩
  have hk32' : ¬ (32 : Int) < h.keys.length := by omega
  have hk32'' : (h.keys.length : Int) ≤ 32 := by omega
  by_cases ht32 : 32 < h.txns.length
  · have hr : checkB h = false := by simp [checkB, Nat.not_le.2 ht32]
    rw [hr, errno_f]
    have ht32' : (32 : Int) < h.txns.length := by omega
    ((repeat refine WpM.seq ?_); have z_ex := (And.intro @hk32' (And.intro @hk32'' (And.intro @ht32' True.intro))); refine WpM.regPE [] [(1, _), (21, _)] (by (refine s_f [(1, _)] ?_; refine s_l [(12, _)] ?_; refine s_q [(13, _)] ?_; refine s_q [(14, _)] ?_; refine s_m [(15, _)] ?_; refine s_wit ?_; intro z_g; (first | refine s_skip rfl z_g z_fp ?_ | (refine s_f [(1, _)] ?_ (hg := z_g))); clear z_g; refine s_wit ?_; intro z_g; (first | refine s_skip rfl z_g z_fp ?_ | (refine s_l [(17, _)] ?_ (hg := z_g))); clear z_g; refine s_wit ?_; intro z_g; (first | refine s_skip rfl z_g z_fp ?_ | (refine s_q [(18, _)] ?_ (hg := z_g))); clear z_g; refine s_wit ?_; intro z_g; (first | refine s_skip rfl z_g z_fp ?_ | (refine s_q [(19, _)] ?_ (hg := z_g))); clear z_g; refine s_m [(16, _), (20, _)] ?_; exact wpS_nil ⟨rfl, rfl⟩)) z_su ?_; clear z_ex)
    ((repeat refine WpM.seq ?_); refine WpM.condT (by (simp (maxSteps := 2000000) (disch := omega) [go_sem, -List.map_map, ht32'])) ?_)
    ((repeat refine WpM.seq ?_); have z_ex := True.intro; refine WpM.regPE [] [(2, _)] (by (refine s_m [] ?_; exact wpS_nil ⟨rfl, rfl⟩)) z_su ?_; clear z_ex)
    refine WpM.ret ?_
    exact ⟨.inr rfl, Upd.done ⟨_, (by (simp (maxSteps := 2000000) (disch := omega) [go_sem, -List.map_map, resV, resVs, resV1])), rfl, fun m k _ hk => by have := hH _ _ hk; (simp (maxSteps := 2000000) (disch := omega) [go_sem, -List.map_map, hk])⟩⟩
  have ht32' : ¬ (32 : Int) < h.txns.length := by omega
  have ht32'' : (h.txns.length : Int) ≤ 32 := by omega
  ((repeat refine WpM.seq ?_); have z_ex := (And.intro @hk32' (And.intro @hk32'' (And.intro @ht32' (And.intro @ht32'' True.intro)))); refine WpM.regPE [] [(1, _), (21, _)] (by (refine s_f [(1, _)] ?_; refine s_l [(12, _)] ?_; refine s_q [(13, _)] ?_; refine s_q [(14, _)] ?_; refine s_m [(15, _)] ?_; refine s_wit ?_; intro z_g; (first | refine s_skip rfl z_g z_fp ?_ | (refine s_f [(1, _)] ?_ (hg := z_g))); clear z_g; refine s_wit ?_; intro z_g; (first | refine s_skip rfl z_g z_fp ?_ | (refine s_l [(17, _)] ?_ (hg := z_g))); clear z_g; refine s_wit ?_; intro z_g; (first | refine s_skip rfl z_g z_fp ?_ | (refine s_q [(18, _)] ?_ (hg := z_g))); clear z_g; refine s_wit ?_; intro z_g; (first | refine s_skip rfl z_g z_fp ?_ | (refine s_q [(19, _)] ?_ (hg := z_g))); clear z_g; refine s_m [(16, _), (20, _)] ?_; exact wpS_nil ⟨rfl, rfl⟩)) z_su ?_; clear z_ex)
  ((repeat refine WpM.seq ?_); refine WpM.condF (by (simp (maxSteps := 2000000) (disch := omega) [go_sem, -List.map_map, ht32', ht32''])) ?_)
  refine WpM.skip ?_
  ((repeat refine WpM.seq ?_); have z_ex := True.intro; refine WpM.regPE [] [(1, _), (23, _), (24, _), (25, _)] (by (refine s_f [(1, _)] ?_; refine s_l [(22, _)] ?_; refine s_q [(23, _)] ?_; refine s_m [] ?_; exact wpS_nil ⟨rfl, rfl⟩)) z_su ?_; clear z_ex)
  ((repeat refine WpM.seq ?_); refine WpM.block ?_)
  refine WpM.loop (fun (j : Nat) fr S => j ≤ h.keys.length ∧ (∀ i, i < j → nameB h.keys i = true) ∧ fr = frOf [(1, .ptr n0 0), (23, .d (strs h.keys)), (24, .d (.int .i64 h.keys.length)), (25, .d (.int .i64 j))] ∧ ∃ nx, n0 < nx ∧ S = ⟨nx, [(n0, some (histBox h))], H⟩) (fun j => h.keys.length - j) 0 (le_cut (n0 := n0) (l' := [(n0, some (histBox h))]) hH (by (simp (maxSteps := 2000000) (disch := omega) [go_sem, -List.map_map])) (Nat.le_refl _) (by (simp (maxSteps := 2000000) (disch := omega) [go_sem, -List.map_map, histBox, strs]))) (frLe_frOf (by (simp (maxSteps := 2000000) (disch := omega) [go_sem, -List.map_map, strs]))) ⟨by omega, by simp, rfl, n0 + 16, ?_, rfl⟩ ?_
  · omega
  rintro j fr S' ⟨hj, hall, rfl, nx, hnx, rfl⟩
  ((repeat refine WpM.seq ?_); have z_ex := True.intro; refine WpM.regPE [] [(1, _), (23, _), (24, _), (25, _), (26, _)] (by (refine s_q [(24, _), (25, _)] ?_; exact wpS_nil ⟨rfl, rfl⟩)) z_su ?_; clear z_ex)
  by_cases hlt : j < h.keys.length
  · ((repeat refine WpM.seq ?_); refine WpM.condT (by (simp (maxSteps := 2000000) (disch := omega) [go_sem, -List.map_map, hlt])) ?_)
    refine WpM.skip ?_
    ((repeat refine WpM.seq ?_); refine WpM.block ?_)
    have hnb := nameB_get hlt
    obtain ⟨s, hs⟩ : ∃ s, s = h.keys[j] := ⟨_, rfl⟩
    have hget : (h.keys.map D.str)[j]? = some (.str s) := by simp [hlt, hs]
    rw [← hs, findI_none] at hnb
    have hfind := contains52 (h.keys.take j) s (by simp; omega)
    obtain ⟨fi, hfi⟩ : ∃ fi, fi = findI (h.keys.take j) s := ⟨_, rfl⟩
    have hst : strs (h.keys.take j) = .sl ((h.keys.map D.str).take j) := by rw [strs, List.map_take]
    rw [hst] at hfind
    rw [← hfi] at hfind hnb
    have bad : nameB h.keys j = false → checkB h = false := fun hn => by rw [checkB, names_bad hlt hn]; rfl
    ((repeat refine WpM.seq ?_); have z_ex := (And.intro @strs.eq_1 (And.intro @hget (And.intro @hlt True.intro))); refine WpM.regPE [] [(1, _), (3, _), (4, _), (23, _), (24, _), (25, _)] (by (refine s_m [(25, _)] ?_; refine s_q [(23, _), (25, _)] ?_; refine s_l [(28, _)] ?_; refine s_m [(27, _)] ?_; refine s_m [(29, _)] ?_; exact wpS_nil ⟨rfl, rfl⟩)) z_su ?_; clear z_ex)
    by_cases h1 : s = ⟨#[]⟩
    · have h0 := size_zero.1 h1
      rw [bad (by rw [hnb]; simp; omega), errno_f]
      ((repeat refine WpM.seq ?_); have z_ex := (And.intro @h1 True.intro); refine WpM.regPE [] [(1, _), (23, _), (24, _), (25, _), (44, _)] (by (refine s_m [(4, _)] ?_; refine s_q [(30, _)] ?_; refine s_m [(31, _)] ?_; refine s_wit ?_; intro z_g; (first | refine s_skip rfl z_g z_fp ?_ | (refine s_m [(4, _)] ?_ (hg := z_g))); clear z_g; refine s_wit ?_; intro z_g; (first | refine s_skip rfl z_g z_fp ?_ | (refine s_q [(33, _)] ?_ (hg := z_g))); clear z_g; refine s_wit ?_; intro z_g; (first | refine s_skip rfl z_g z_fp ?_ | (refine s_q [(34, _)] ?_ (hg := z_g))); clear z_g; refine s_m [(32, _), (35, _)] ?_; refine s_m [(36, _)] ?_; refine s_wit ?_; intro z_g; (first | refine s_skip rfl z_g z_fp ?_ | (refine s_f [(1, _)] ?_ (hg := z_g))); clear z_g; refine s_wit ?_; intro z_g; (first | refine s_skip rfl z_g z_fp ?_ | (refine s_l [(38, _)] ?_ (hg := z_g))); clear z_g; refine s_wit ?_; intro z_g; (first | refine s_skip rfl z_g z_fp ?_ | (refine s_m [(3, _)] ?_ (hg := z_g))); clear z_g; refine s_wit ?_; intro z_g; (first | refine s_skip rfl z_g z_fp ?_ | (refine s_q [(39, _), (40, _)] ?_ (hg := z_g))); clear z_g; refine s_wit ?_; intro z_g; (first | refine s_skip rfl z_g z_fp ?_ | (refine s_m [(4, _)] ?_ (hg := z_g))); clear z_g; refine s_wit ?_; intro z_g; (first | refine s_skip rfl z_g z_fp ?_ | (refine s_pure (callOf_eq rfl rfl rfl (mlk_tmp z_lk (mlk_tmp z_lk mlk_nil))) (?missing) rfl z_g z_ip z_fp ?_)); clear z_g; refine s_m [(37, _), (43, _)] ?_; exact wpS_nil ⟨rfl, rfl⟩)) z_su ?_; clear z_ex)
      ((repeat refine WpM.seq ?_); refine WpM.condT (by (simp (maxSteps := 2000000) (disch := omega) [go_sem, -List.map_map, h1])) ?_)
      ((repeat refine WpM.seq ?_); have z_ex := True.intro; refine WpM.regPE [] [(2, _)] (by (refine s_m [] ?_; exact wpS_nil ⟨rfl, rfl⟩)) z_su ?_; clear z_ex)
      refine WpM.ret ?_
      exact ⟨.inr rfl, Upd.done ⟨_, (by (simp (maxSteps := 2000000) (disch := omega) [go_sem, -List.map_map, resV, resVs, resV1])), rfl, fun m k _ hk => by have := hH _ _ hk; (simp (maxSteps := 2000000) (disch := omega) [go_sem, -List.map_map, hk])⟩⟩
    · have h0 : ¬ s.size = 0 := fun h0 => h1 (size_zero.2 h0)
      by_cases h2 : 32 < s.size
      · rw [bad (by rw [hnb]; simp; omega), errno_f]
        have h2' : (32 : Int) < s.size := by omega
        ((repeat refine WpM.seq ?_); have z_ex := (And.intro @h1 (And.intro @h2' True.intro)); refine WpM.regPE [] [(1, _), (23, _), (24, _), (25, _), (44, _)] (by (refine s_m [(4, _)] ?_; refine s_q [(30, _)] ?_; refine s_m [(31, _)] ?_; refine s_wit ?_; intro z_g; (first | refine s_skip rfl z_g z_fp ?_ | (refine s_m [(4, _)] ?_ (hg := z_g))); clear z_g; refine s_wit ?_; intro z_g; (first | refine s_skip rfl z_g z_fp ?_ | (refine s_q [(33, _)] ?_ (hg := z_g))); clear z_g; refine s_wit ?_; intro z_g; (first | refine s_skip rfl z_g z_fp ?_ | (refine s_q [(34, _)] ?_ (hg := z_g))); clear z_g; refine s_m [(32, _), (35, _)] ?_; refine s_m [(36, _)] ?_; refine s_wit ?_; intro z_g; (first | refine s_skip rfl z_g z_fp ?_ | (refine s_f [(1, _)] ?_ (hg := z_g))); clear z_g; refine s_wit ?_; intro z_g; (first | refine s_skip rfl z_g z_fp ?_ | (refine s_l [(38, _)] ?_ (hg := z_g))); clear z_g; refine s_wit ?_; intro z_g; (first | refine s_skip rfl z_g z_fp ?_ | (refine s_m [(3, _)] ?_ (hg := z_g))); clear z_g; refine s_wit ?_; intro z_g; (first | refine s_skip rfl z_g z_fp ?_ | (refine s_q [(39, _), (40, _)] ?_ (hg := z_g))); clear z_g; refine s_wit ?_; intro z_g; (first | refine s_skip rfl z_g z_fp ?_ | (refine s_m [(4, _)] ?_ (hg := z_g))); clear z_g; refine s_wit ?_; intro z_g; (first | refine s_skip rfl z_g z_fp ?_ | (refine s_pure (callOf_eq rfl rfl rfl (mlk_tmp z_lk (mlk_tmp z_lk mlk_nil))) (?missing) rfl z_g z_ip z_fp ?_)); clear z_g; refine s_m [(37, _), (43, _)] ?_; exact wpS_nil ⟨rfl, rfl⟩)) z_su ?_; clear z_ex)
        ((repeat refine WpM.seq ?_); refine WpM.condT (by (simp (maxSteps := 2000000) (disch := omega) [go_sem, -List.map_map, h2'])) ?_)
        ((repeat refine WpM.seq ?_); have z_ex := True.intro; refine WpM.regPE [] [(2, _)] (by (refine s_m [] ?_; exact wpS_nil ⟨rfl, rfl⟩)) z_su ?_; clear z_ex)
        refine WpM.ret ?_
        exact ⟨.inr rfl, Upd.done ⟨_, (by (simp (maxSteps := 2000000) (disch := omega) [go_sem, -List.map_map, resV, resVs, resV1])), rfl, fun m k _ hk => by have := hH _ _ hk; (simp (maxSteps := 2000000) (disch := omega) [go_sem, -List.map_map, hk])⟩⟩
      · have h2' : ¬ (32 : Int) < s.size := by omega
        have h2'' : (s.size : Int) ≤ 32 := by omega
        by_cases h3 : 0 ≤ fi
        · rw [bad (by rw [hnb]; simp; omega), errno_f]
          ((repeat refine WpM.seq ?_); have z_ex := (And.intro @h1 (And.intro @h2' (And.intro @h2'' (And.intro @histBox.eq_1 (And.intro @strs.eq_1 (And.intro @hj (And.intro @h3 True.intro))))))); refine WpM.regPE [] [(1, _), (23, _), (24, _), (25, _), (44, _)] (by (refine s_m [(4, _)] ?_; refine s_q [(30, _)] ?_; refine s_m [(31, _)] ?_; refine s_wit ?_; intro z_g; (first | refine s_skip rfl z_g z_fp ?_ | (refine s_m [(4, _)] ?_ (hg := z_g))); clear z_g; refine s_wit ?_; intro z_g; (first | refine s_skip rfl z_g z_fp ?_ | (refine s_q [(33, _)] ?_ (hg := z_g))); clear z_g; refine s_wit ?_; intro z_g; (first | refine s_skip rfl z_g z_fp ?_ | (refine s_q [(34, _)] ?_ (hg := z_g))); clear z_g; refine s_m [(32, _), (35, _)] ?_; refine s_m [(36, _)] ?_; refine s_wit ?_; intro z_g; (first | refine s_skip rfl z_g z_fp ?_ | (refine s_f [(1, _)] ?_ (hg := z_g))); clear z_g; refine s_wit ?_; intro z_g; (first | refine s_skip rfl z_g z_fp ?_ | (refine s_l [(38, _)] ?_ (hg := z_g))); clear z_g; refine s_wit ?_; intro z_g; (first | refine s_skip rfl z_g z_fp ?_ | (refine s_m [(3, _)] ?_ (hg := z_g))); clear z_g; refine s_wit ?_; intro z_g; (first | refine s_skip rfl z_g z_fp ?_ | (refine s_q [(39, _), (40, _)] ?_ (hg := z_g))); clear z_g; refine s_wit ?_; intro z_g; (first | refine s_skip rfl z_g z_fp ?_ | (refine s_m [(4, _)] ?_ (hg := z_g))); clear z_g; refine s_wit ?_; intro z_g; (first | refine s_skip rfl z_g z_fp ?_ | (refine s_pure (callOf_eq rfl rfl rfl (mlk_tmp z_lk (mlk_tmp z_lk mlk_nil))) (hfind) rfl z_g z_ip z_fp ?_)); clear z_g; refine s_m [(37, _), (43, _)] ?_; exact wpS_nil ⟨rfl, rfl⟩)) z_su ?_; clear z_ex)
          ((repeat refine WpM.seq ?_); refine WpM.condT (by (simp (maxSteps := 2000000) (disch := omega) [go_sem, -List.map_map, h3])) ?_)
          ((repeat refine WpM.seq ?_); have z_ex := True.intro; refine WpM.regPE [] [(2, _)] (by (refine s_m [] ?_; exact wpS_nil ⟨rfl, rfl⟩)) z_su ?_; clear z_ex)
          refine WpM.ret ?_
          exact ⟨.inr rfl, Upd.done ⟨_, (by (simp (maxSteps := 2000000) (disch := omega) [go_sem, -List.map_map, resV, resVs, resV1])), rfl, fun m k _ hk => by have := hH _ _ hk; (simp (maxSteps := 2000000) (disch := omega) [go_sem, -List.map_map, hk])⟩⟩
        · have h3' : fi < 0 := by omega
          ((repeat refine WpM.seq ?_); have z_ex := (And.intro @h1 (And.intro @h2' (And.intro @h2'' (And.intro @histBox.eq_1 (And.intro @strs.eq_1 (And.intro @hj (And.intro @h3' True.intro))))))); refine WpM.regPE [] [(1, _), (23, _), (24, _), (25, _), (44, _)] (by (refine s_m [(4, _)] ?_; refine s_q [(30, _)] ?_; refine s_m [(31, _)] ?_; refine s_wit ?_; intro z_g; (first | refine s_skip rfl z_g z_fp ?_ | (refine s_m [(4, _)] ?_ (hg := z_g))); clear z_g; refine s_wit ?_; intro z_g; (first | refine s_skip rfl z_g z_fp ?_ | (refine s_q [(33, _)] ?_ (hg := z_g))); clear z_g; refine s_wit ?_; intro z_g; (first | refine s_skip rfl z_g z_fp ?_ | (refine s_q [(34, _)] ?_ (hg := z_g))); clear z_g; refine s_m [(32, _), (35, _)] ?_; refine s_m [(36, _)] ?_; refine s_wit ?_; intro z_g; (first | refine s_skip rfl z_g z_fp ?_ | (refine s_f [(1, _)] ?_ (hg := z_g))); clear z_g; refine s_wit ?_; intro z_g; (first | refine s_skip rfl z_g z_fp ?_ | (refine s_l [(38, _)] ?_ (hg := z_g))); clear z_g; refine s_wit ?_; intro z_g; (first | refine s_skip rfl z_g z_fp ?_ | (refine s_m [(3, _)] ?_ (hg := z_g))); clear z_g; refine s_wit ?_; intro z_g; (first | refine s_skip rfl z_g z_fp ?_ | (refine s_q [(39, _), (40, _)] ?_ (hg := z_g))); clear z_g; refine s_wit ?_; intro z_g; (first | refine s_skip rfl z_g z_fp ?_ | (refine s_m [(4, _)] ?_ (hg := z_g))); clear z_g; refine s_wit ?_; intro z_g; (first | refine s_skip rfl z_g z_fp ?_ | (refine s_pure (callOf_eq rfl rfl rfl (mlk_tmp z_lk (mlk_tmp z_lk mlk_nil))) (hfind) rfl z_g z_ip z_fp ?_)); clear z_g; refine s_m [(37, _), (43, _)] ?_; exact wpS_nil ⟨rfl, rfl⟩)) z_su ?_; clear z_ex)
          ((repeat refine WpM.seq ?_); refine WpM.condF (by (simp (maxSteps := 2000000) (disch := omega) [go_sem, -List.map_map, h3'])) ?_)
          refine WpM.skip ?_
          ((repeat refine WpM.seq ?_); have z_ex := (And.intro @wrap_id True.intro); refine WpM.regPE [] [(1, _), (23, _), (24, _), (25, _)] (by (refine s_q [(25, _)] ?_; refine s_m [(45, _)] ?_; exact wpS_nil ⟨rfl, rfl⟩)) z_su ?_; clear z_ex)
          have hall' : ∀ i, i < j + 1 → nameB h.keys i = true := fun i hi => by
            rcases Nat.lt_or_ge i j with h' | h'
            · exact hall i h'
            · obtain rfl : i = j := by omega
              rw [hnb]; simp [h3']; omega
          refine round_end (x' := j + 1) (St.Le.refl _) (Sub.le z_su) ⟨by omega, hall', rfl, _, ?_, rfl⟩ (by omega)
          show n0 < nx + _; omega
  · ((repeat refine WpM.seq ?_); refine WpM.condF (by (simp (maxSteps := 2000000) (disch := omega) [go_sem, -List.map_map, hlt])) ?_)
    (refine WpM.exit ?_; (repeat (with_reducible (first | refine thenM_exit ?_ | refine blockM_eq ?_ | refine blockM_ne (by decide) ?_))))
    obtain rfl : j = h.keys.length := by omega
    have hnm : namesB h.keys = true := by rw [names_good hall]; simp; omega
    clear hall hlt hj
    ((repeat refine WpM.seq ?_); have z_ex := True.intro; refine WpM.regP [] ?_; intro K hK; refine s_call (callOf_eq rfl rfl rfl mlk_nil) (new47 ⟨_, [(n0, some (histBox h))], H⟩) rfl rfl z_ip ?_; rintro _ z_S ⟨L, O, rfl, hLed, hO, hnx1, old⟩; refine s_put z_fp ?_; refine s_m [(46, _)] ?_; refine s_endE [(1, _), (5, _)] hK z_su ?_; clear hK K; clear z_ex)
    refine WpM.norm ?_
    intro nx1 G1 hnx2 hG1 hk1
    have hLed1 : LedAt G1 L Bk.empty O := by rw [hG1]; exact hLed
    have hO1 : ∀ m, O m → n0 < m ∧ m < nx1 := fun m hm => by
      have := hO m hm
      have h2 : nx1 = _ + 1 := hnx2
      have h3 : nx + 1 ≤ m := this.1
      omega
    have hn1 : n0 < nx1 := by have h2 : nx1 = _ + 1 := hnx2; have h3 : nx + 1 ≤ _ := hnx1; omega
    have hbx1 : G1 n0 = some (histBox h) := by rw [hG1]; exact old n0 _ (by (simp (maxSteps := 2000000) (disch := omega) [go_sem, -List.map_map]))
    have hold1 : ∀ m k, H m = some k → G1 m = some k := fun m k hk => by
      have := hH _ _ hk
      rw [hG1]
      exact old m k (by (simp (maxSteps := 2000000) (disch := omega) [go_sem, -List.map_map, hk]))
    clear hLed hO hnx1 old hnx2 hG1 hk1
    ((repeat refine WpM.seq ?_); have z_ex := (And.intro @hbx1 (And.intro @histBox.eq_1 True.intro)); refine WpM.regPE [] [(1, _), (5, _), (48, _), (49, _), (50, _)] (by (refine s_f [(1, _)] ?_; refine s_l [(47, _)] ?_; refine s_q [(48, _)] ?_; refine s_m [] ?_; exact wpS_nil ⟨rfl, rfl⟩)) z_su ?_; clear z_ex)
    ((repeat refine WpM.seq ?_); refine WpM.block ?_)
    refine WpM.loop (fun (i : Nat) fr S => i ≤ h.txns.length ∧ ∃ nx G b O, S = ⟨nx, [], G⟩ ∧ checkSt h i = some b ∧ LedAt G L b O ∧ (∀ m, O m → n0 < m ∧ m < nx) ∧ n0 < nx ∧ G n0 = some (histBox h) ∧ (∀ m k, H m = some k → G m = some k) ∧ fr = frOf [(1, .ptr n0 0), (5, .ptr L 0), (48, .d (.sl (h.txns.map encTxn))), (49, .d (.int .i64 h.txns.length)), (50, .d (.int .i64 i))]) (fun i => h.txns.length - i) 0 (St.Le.refl _) (Sub.le z_su) ⟨by omega, _, G1, Bk.empty, O, rfl, rfl, hLed1, fun m hm => ⟨(hO1 m hm).1, ?_⟩, ?_, hbx1, hold1, rfl⟩ ?_
    · have := (hO1 m hm).2; show m < nx1 + _; omega
    · show n0 < nx1 + _; omega
    clear hLed1 hO1 hn1 hbx1 hold1
    rintro i fr S' ⟨hi, nx2, G, b, O, rfl, hst, hLed, hO, hn2, hbx, hold, rfl⟩
    refine WpM.known fun hGk => ?_
    have hGk : ∀ m k, G m = some k → m < nx2 := hGk
    ((repeat refine WpM.seq ?_); have z_ex := True.intro; refine WpM.regPE [] [(1, _), (5, _), (48, _), (49, _), (50, _), (51, _)] (by (refine s_q [(49, _), (50, _)] ?_; exact wpS_nil ⟨rfl, rfl⟩)) z_su ?_; clear z_ex)
    by_cases hit : i < h.txns.length
    · ((repeat refine WpM.seq ?_); refine WpM.condT (by (simp (maxSteps := 2000000) (disch := omega) [go_sem, -List.map_map, hit])) ?_)
      refine WpM.skip ?_
      ((repeat refine WpM.seq ?_); refine WpM.block ?_)
      obtain ⟨t, ht⟩ : ∃ t, t = h.txns[i] := ⟨_, rfl⟩
      have hget : (h.txns.map encTxn)[i]? = some (encTxn t) := by simp [hit, ht]
      have htok := hh.2.2 t (ht ▸ List.getElem_mem _)
      have hstep := stepT_get (b := b) hit
      rw [← ht] at hstep
      have hcalls := calls53 h hh t htok
      have hplaced := placed54 (h.txns.take i) (by simp; omega) t
      rw [List.map_take] at hplaced
      have htakes : (h.txns.map encTxn).take i = (h.txns.map encTxn).take i := rfl
      obtain ⟨ev, hev⟩ : ∃ ev, ev = evOf h.keys t := ⟨_, rfl⟩
      obtain ⟨ok, hok⟩ : ∃ ok, ok = evOkB h.keys t := ⟨_, rfl⟩
      obtain ⟨pl, hpl⟩ : ∃ pl, pl = placedB (h.txns.take i) t := ⟨_, rfl⟩
      rw [← hev, ← hok] at hcalls hstep
      rw [← hpl] at hplaced hstep
      ((repeat refine WpM.seq ?_); have z_ex := (And.intro @hget (And.intro @encTxn.eq_1 True.intro)); refine WpM.regPE [] [(1, _), (5, _), (6, _), (7, _), (48, _), (49, _), (50, _)] (by (refine s_m [(50, _)] ?_; refine s_q [(48, _), (50, _)] ?_; refine s_l [(53, _)] ?_; refine s_a [] ?_; refine s_m [(52, _)] ?_; refine s_s [(7, _), (54, _)] ?_; exact wpS_nil ⟨rfl, rfl⟩)) z_su ?_; clear z_ex)
      ((repeat refine WpM.seq ?_); have z_ex := (And.intro @hbx (And.intro @histBox.eq_1 (And.intro @encEvent.eq_1 True.intro))); refine WpM.regPE [] [(1, _), (5, _), (6, _), (7, _), (8, _), (9, _), (48, _), (49, _), (50, _)] (by (refine s_l [(1, _)] ?_; refine s_l [(7, _)] ?_; refine s_pure (callOf_eq rfl rfl rfl (mlk_tmp z_lk (mlk_tmp z_lk mlk_nil))) (hcalls) rfl rfl z_ip z_fp ?_; refine s_m [(58, _)] ?_; refine s_x [(55, _)] ?_; refine s_x [(55, _)] ?_; refine s_a [] ?_; refine s_s [(8, _), (59, _)] ?_; refine s_m [(60, _)] ?_; exact wpS_nil ⟨rfl, rfl⟩)) z_su ?_; clear z_ex)
      cases ok with
      | false =>
        rw [checkB_bad hit hst (by rw [hstep]; rfl), errno_f]
        ((repeat refine WpM.seq ?_); have z_ex := True.intro; refine WpM.drwPE [] [(1, _), (5, _), (6, _), (8, _), (48, _), (49, _), (50, _), (71, _)] mixed (by kernel_rfl) (by kernel_rfl) [] (by kernel_rfl) (by (refine d_m [(9, _)] ?_; refine d_u [(61, _)] ?_; refine d_m [(62, _)] ?_; refine d_wit ?_; intro z_g; (first | refine d_skip rfl z_g z_fp ?_ | (refine d_f [(1, _)] ?_ (hg := z_g))); clear z_g; refine d_wit ?_; intro z_g; (first | refine d_skip rfl z_g z_fp ?_ | (refine d_l [(64, _)] ?_ (hg := z_g))); clear z_g; refine d_wit ?_; intro z_g; (first | refine d_skip rfl z_g z_fp ?_ | (refine d_m [(6, _)] ?_ (hg := z_g))); clear z_g; refine d_wit ?_; intro z_g; (first | refine d_skip rfl z_g z_fp ?_ | (refine d_q [(65, _), (66, _)] ?_ (hg := z_g))); clear z_g; refine d_wit ?_; intro z_g; (first | refine d_skip rfl z_g z_fp ?_ | (refine d_l [(7, _)] ?_ (hg := z_g))); clear z_g; refine d_wit ?_; intro z_g; (first | refine d_skip rfl z_g z_fp ?_ | (refine d_pure (callOf_eq rfl rfl rfl (mlk_tmp z_lk (mlk_tmp z_lk mlk_nil))) (?missing) rfl z_g z_ip rfl z_fp ?_)); clear z_g; refine d_wit ?_; intro z_g; (first | refine d_skip rfl z_g z_fp ?_ | (refine d_u [(69, _)] ?_ (hg := z_g))); clear z_g; refine d_m [(63, _), (70, _)] ?_; exact d_end z_mt z_sn)) z_su ?_; clear z_ex)
        ((repeat refine WpM.seq ?_); refine WpM.condT (by (simp (maxSteps := 2000000) (disch := omega) [go_sem, -List.map_map])) ?_)
        ((repeat refine WpM.seq ?_); have z_ex := True.intro; refine WpM.regPE [] [(2, _)] (by (refine s_m [] ?_; exact wpS_nil ⟨rfl, rfl⟩)) z_su ?_; clear z_ex)
        refine WpM.ret ?_
        exact ⟨.inr rfl, Upd.done ⟨_, (by (simp (maxSteps := 2000000) (disch := omega) [go_sem, -List.map_map, resV, resVs, resV1])), rfl, fun m k _ hk => by have h9 := hH _ _ hk; have h8 := hold m k hk; (simp (maxSteps := 2000000) (disch := omega) [go_sem, -List.map_map, h8])⟩⟩
      | true =>
        cases pl with
        | false =>
          rw [checkB_bad hit hst (by rw [hstep]; rfl), errno_f]
          ((repeat refine WpM.seq ?_); have z_ex := (And.intro @hbx (And.intro @histBox.eq_1 (And.intro @hi (And.intro @okEl_txn True.intro)))); refine WpM.drwPE [] [(1, _), (5, _), (6, _), (8, _), (48, _), (49, _), (50, _), (71, _)] mixed (by kernel_rfl) (by kernel_rfl) [] (by kernel_rfl) (by (refine d_m [(9, _)] ?_; refine d_u [(61, _)] ?_; refine d_m [(62, _)] ?_; refine d_wit ?_; intro z_g; (first | refine d_skip rfl z_g z_fp ?_ | (refine d_f [(1, _)] ?_ (hg := z_g))); clear z_g; refine d_wit ?_; intro z_g; (first | refine d_skip rfl z_g z_fp ?_ | (refine d_l [(64, _)] ?_ (hg := z_g))); clear z_g; refine d_wit ?_; intro z_g; (first | refine d_skip rfl z_g z_fp ?_ | (refine d_m [(6, _)] ?_ (hg := z_g))); clear z_g; refine d_wit ?_; intro z_g; (first | refine d_skip rfl z_g z_fp ?_ | (refine d_q [(65, _), (66, _)] ?_ (hg := z_g))); clear z_g; refine d_wit ?_; intro z_g; (first | refine d_skip rfl z_g z_fp ?_ | (refine d_l [(7, _)] ?_ (hg := z_g))); clear z_g; refine d_wit ?_; intro z_g; (first | refine d_skip rfl z_g z_fp ?_ | (refine d_pure (callOf_eq rfl rfl rfl (mlk_tmp z_lk (mlk_tmp z_lk mlk_nil))) (hplaced) rfl z_g z_ip rfl z_fp ?_)); clear z_g; refine d_wit ?_; intro z_g; (first | refine d_skip rfl z_g z_fp ?_ | (refine d_u [(69, _)] ?_ (hg := z_g))); clear z_g; refine d_m [(63, _), (70, _)] ?_; exact d_end z_mt z_sn)) z_su ?_; clear z_ex)
          ((repeat refine WpM.seq ?_); refine WpM.condT (by (simp (maxSteps := 2000000) (disch := omega) [go_sem, -List.map_map])) ?_)
          ((repeat refine WpM.seq ?_); have z_ex := True.intro; refine WpM.regPE [] [(2, _)] (by (refine s_m [] ?_; exact wpS_nil ⟨rfl, rfl⟩)) z_su ?_; clear z_ex)
          refine WpM.ret ?_
          exact ⟨.inr rfl, Upd.done ⟨_, (by (simp (maxSteps := 2000000) (disch := omega) [go_sem, -List.map_map, resV, resVs, resV1])), rfl, fun m k _ hk => by have h9 := hH _ _ hk; have h8 := hold m k hk; (simp (maxSteps := 2000000) (disch := omega) [go_sem, -List.map_map, h8])⟩⟩
        | true =>
          ((repeat refine WpM.seq ?_); have z_ex := (And.intro @hbx (And.intro @histBox.eq_1 (And.intro @hi (And.intro @okEl_txn True.intro)))); refine WpM.drwPE [] [(1, _), (5, _), (6, _), (8, _), (48, _), (49, _), (50, _), (71, _)] mixed (by kernel_rfl) (by kernel_rfl) [] (by kernel_rfl) (by (refine d_m [(9, _)] ?_; refine d_u [(61, _)] ?_; refine d_m [(62, _)] ?_; refine d_wit ?_; intro z_g; (first | refine d_skip rfl z_g z_fp ?_ | (refine d_f [(1, _)] ?_ (hg := z_g))); clear z_g; refine d_wit ?_; intro z_g; (first | refine d_skip rfl z_g z_fp ?_ | (refine d_l [(64, _)] ?_ (hg := z_g))); clear z_g; refine d_wit ?_; intro z_g; (first | refine d_skip rfl z_g z_fp ?_ | (refine d_m [(6, _)] ?_ (hg := z_g))); clear z_g; refine d_wit ?_; intro z_g; (first | refine d_skip rfl z_g z_fp ?_ | (refine d_q [(65, _), (66, _)] ?_ (hg := z_g))); clear z_g; refine d_wit ?_; intro z_g; (first | refine d_skip rfl z_g z_fp ?_ | (refine d_l [(7, _)] ?_ (hg := z_g))); clear z_g; refine d_wit ?_; intro z_g; (first | refine d_skip rfl z_g z_fp ?_ | (refine d_pure (callOf_eq rfl rfl rfl (mlk_tmp z_lk (mlk_tmp z_lk mlk_nil))) (hplaced) rfl z_g z_ip rfl z_fp ?_)); clear z_g; refine d_wit ?_; intro z_g; (first | refine d_skip rfl z_g z_fp ?_ | (refine d_u [(69, _)] ?_ (hg := z_g))); clear z_g; refine d_m [(63, _), (70, _)] ?_; exact d_end z_mt z_sn)) z_su ?_; clear z_ex)
          ((repeat refine WpM.seq ?_); refine WpM.condF (by (simp (maxSteps := 2000000) (disch := omega) [go_sem, -List.map_map])) ?_)
          refine WpM.skip ?_
          ((repeat refine WpM.seq ?_); have z_ex := True.intro; refine WpM.regPE [] [(1, _), (5, _), (6, _), (48, _), (49, _), (50, _), (73, _), (74, _), (75, _)] (by (refine s_f [(8, _)] ?_; refine s_l [(72, _)] ?_; refine s_q [(73, _)] ?_; refine s_m [] ?_; exact wpS_nil ⟨rfl, rfl⟩)) z_su ?_; clear z_ex)
          have hevok : eventOk ev = true := by rw [hev]; rw [evOkB, ← hev] at hok; have := hok.symm; rw [Bool.and_eq_true] at this; rw [← hev]; exact this.2
          obtain ⟨_, _, hl16, hcok⟩ := eventOk_spec hevok
          have hwf0 := checkSt_wf hst
          ((repeat refine WpM.seq ?_); refine WpM.block ?_)
          refine WpM.loop (fun (k : Nat) fr S => k ≤ ev.calls.length ∧ ∃ nx G b3 O, S = ⟨nx, [], G⟩ ∧ enters b (ev.calls.take k) i = some b3 ∧ LedAt G L b3 O ∧ (∀ m, O m → n0 < m ∧ m < nx) ∧ n0 < nx ∧ G n0 = some (histBox h) ∧ (∀ m k, H m = some k → G m = some k) ∧ fr = frOf [(1, .ptr n0 0), (5, .ptr L 0), (6, .d (.int .i64 i)), (48, .d (.sl (h.txns.map encTxn))), (49, .d (.int .i64 h.txns.length)), (50, .d (.int .i64 i)), (73, .d (.sl (ev.calls.map encCall))), (74, .d (.int .i64 ev.calls.length)), (75, .d (.int .i64 k))]) (fun k => ev.calls.length - k) 0 (le_cut (n0 := nx2) (n' := nx2 + 30) (l' := []) hGk (by (simp (maxSteps := 2000000) (disch := omega) [go_sem, -List.map_map])) (Nat.le_refl _) (by (simp (maxSteps := 2000000) (disch := omega) [go_sem, -List.map_map]))) (Sub.le z_su) ⟨by omega, nx2 + 30, G, b, O, rfl, rfl, hLed, fun m hm => ⟨(hO m hm).1, by have := (hO m hm).2; omega⟩, by omega, hbx, hold, rfl⟩ ?_
          clear hLed hO hn2 hbx hold hGk
          rintro k fr S' ⟨hk, nx3, G, b3, O, rfl, hent, hLed, hO, hn3, hbx, hold, rfl⟩
          refine WpM.known fun hGk => ?_
          have hGk : ∀ m k, G m = some k → m < nx3 := hGk
          ((repeat refine WpM.seq ?_); have z_ex := True.intro; refine WpM.regPE [] [(1, _), (5, _), (6, _), (48, _), (49, _), (50, _), (73, _), (74, _), (75, _), (76, _)] (by (refine s_q [(74, _), (75, _)] ?_; exact wpS_nil ⟨rfl, rfl⟩)) z_su ?_; clear z_ex)
          by_cases hkt : k < ev.calls.length
          · ((repeat refine WpM.seq ?_); refine WpM.condT (by (simp (maxSteps := 2000000) (disch := omega) [go_sem, -List.map_map, hkt])) ?_)
            refine WpM.skip ?_
            ((repeat refine WpM.seq ?_); refine WpM.block ?_)
            obtain ⟨c, hc⟩ : ∃ c, c = ev.calls[k] := ⟨_, rfl⟩
            have hgetc : (ev.calls.map encCall)[k]? = some (encCall c) := by simp [hkt, hc]
            obtain ⟨hk1, hk8⟩ := callOk_kind (hcok c (hc ▸ List.getElem_mem _))
            have hnext := enters_take ev.calls b i k hkt b3 hent
            rw [← hc] at hnext
            have hwf3 := enters_wf _ hwf0 hent
            have hLed' : ∀ (nn nb : Nat) (q : Option Blk), nx3 ≤ nb → LedAt (St.get ⟨nn, [(nb, q)], G⟩) L b3 O := fun nn nb q hnb => hLed.same fun m k ho hk => by
              have := (hO m ho).2
              (simp (maxSteps := 2000000) (disch := omega) [go_sem, -List.map_map, hk])
            have hE := fun S h1 h2 => enter48 b3 _ hwf3 c hk1 hk8 i L O S h1 h2
            ((repeat refine WpM.seq ?_); have z_ex := (And.intro @hgetc (And.intro @encCall.eq_1 True.intro)); refine WpM.regPE [] [(1, _), (5, _), (6, _), (11, _), (48, _), (49, _), (50, _), (73, _), (74, _), (75, _)] (by (refine s_q [(73, _), (75, _)] ?_; refine s_l [(77, _)] ?_; refine s_a [] ?_; refine s_s [(11, _), (78, _)] ?_; exact wpS_nil ⟨rfl, rfl⟩)) z_su ?_; clear z_ex)
            cases he : enterB b3 c i with
            | error e =>
              rw [he] at hE hnext
              rw [checkB_bad hit hst (by rw [hstep]; exact enters_stop ev.calls b i (k + 1) hnext), errno_f]
              ((repeat refine WpM.seq ?_); have z_ex := (And.intro @encCall.eq_1 True.intro); refine WpM.regP [] ?_; intro K hK; refine s_m [(5, _)] ?_; refine s_l [(11, _)] ?_; refine s_m [(6, _)] ?_; refine s_call (callOf_eq rfl rfl rfl (mlk_tmp z_lk (mlk_tmp z_lk (mlk_tmp z_lk mlk_nil)))) (hE _ (hLed' _ _ _ (by omega)) (fun m hm => by have := (hO m hm).2; show m < nx3 + _; omega)) rfl rfl z_ip ?_; rintro _ z_S ⟨hnx, old, rfl, hne⟩; refine s_put z_fp ?_; refine s_q [(82, _)] ?_; refine s_endE [(1, _), (5, _), (6, _), (48, _), (49, _), (50, _), (73, _), (74, _), (75, _), (83, _)] hK z_su ?_; clear hK K; clear z_ex)
              ((repeat refine WpM.seq ?_); refine WpM.condT (by (simp (maxSteps := 2000000) (disch := omega) [go_sem, -List.map_map, hne])) ?_)
              ((repeat refine WpM.seq ?_); have z_ex := True.intro; refine WpM.regPE [] [(2, _)] (by (refine s_m [] ?_; exact wpS_nil ⟨rfl, rfl⟩)) z_su ?_; clear z_ex)
              refine WpM.ret ?_
              exact ⟨.inr rfl, Upd.done ⟨_, (by (simp (maxSteps := 2000000) (disch := omega) [go_sem, -List.map_map, resV, resVs, resV1])), rfl, fun m k _ hk => by have h9 := hH _ _ hk; have h8 := hold m k hk; exact old m k (fun h => by have := (hO m h).1; omega) (by have h7 := hGk m k h8; (simp (maxSteps := 2000000) (disch := omega) [go_sem, -List.map_map, h8]))⟩⟩
            | ok b4 =>
              rw [he] at hE hnext
              ((repeat refine WpM.seq ?_); have z_ex := (And.intro @encCall.eq_1 True.intro); refine WpM.regP [] ?_; intro K hK; refine s_m [(5, _)] ?_; refine s_l [(11, _)] ?_; refine s_m [(6, _)] ?_; refine s_call (callOf_eq rfl rfl rfl (mlk_tmp z_lk (mlk_tmp z_lk (mlk_tmp z_lk mlk_nil)))) (hE _ (hLed' _ _ _ (by omega)) (fun m hm => by have := (hO m hm).2; show m < nx3 + _; omega)) rfl rfl z_ip ?_; rintro _ z_S ⟨hnx, old, rfl, O4, hO4, hLed4⟩; refine s_put z_fp ?_; refine s_q [(82, _)] ?_; refine s_endE [(1, _), (5, _), (6, _), (48, _), (49, _), (50, _), (73, _), (74, _), (75, _), (83, _)] hK z_su ?_; clear hK K; clear z_ex)
              ((repeat refine WpM.seq ?_); refine WpM.condF (by (simp (maxSteps := 2000000) (disch := omega) [go_sem, -List.map_map])) ?_)
              refine WpM.skip ?_
              refine WpM.norm ?_
              intro nx4 G4 hnx4 hG4 hk4
              ((repeat refine WpM.seq ?_); have z_ex := (And.intro @wrap_id True.intro); refine WpM.regPE [] [(1, _), (5, _), (6, _), (48, _), (49, _), (50, _), (73, _), (74, _), (75, _)] (by (refine s_q [(75, _)] ?_; refine s_m [(84, _)] ?_; exact wpS_nil ⟨rfl, rfl⟩)) z_su ?_; clear z_ex)
              refine round_end (x' := k + 1) (St.Le.refl _) (Sub.le z_su) ⟨by omega, _, G4, b4, O4, rfl, hnext, by rw [hG4]; exact hLed4, fun m hm => ?_, ?_, ?_, fun m q hq => ?_, rfl⟩ (by omega)
              · obtain ⟨h1, h2⟩ := hO4 m hm
                have h3 : nx4 = _ + 1 := hnx4
                refine ⟨?_, by show m < nx4 + _; omega⟩
                rcases h1 with h1 | h1
                · exact (hO m h1).1
                · have h4 : nx3 + _ ≤ m := h1
                  omega
              · have h3 : nx4 = _ + 1 := hnx4
                have h4 : nx3 + _ ≤ _ := hnx
                show n0 < nx4 + _; omega
              · rw [hG4]
                exact old n0 _ (fun h => by have := (hO n0 h).1; omega) (by (simp (maxSteps := 2000000) (disch := omega) [go_sem, -List.map_map, hbx]))
              · have h8 := hold m q hq
                have h7 := hGk m q h8
                have h9 := hH m q hq
                rw [hG4]
                exact old m q (fun h => by have := (hO m h).1; omega) (by (simp (maxSteps := 2000000) (disch := omega) [go_sem, -List.map_map, h8]))
          · ((repeat refine WpM.seq ?_); refine WpM.condF (by (simp (maxSteps := 2000000) (disch := omega) [go_sem, -List.map_map, hkt])) ?_)
            (refine WpM.exit ?_; (repeat (with_reducible (first | refine thenM_exit ?_ | refine blockM_eq ?_ | refine blockM_ne (by decide) ?_))))
            obtain rfl : k = ev.calls.length := by omega
            rw [List.take_length] at hent
            ((repeat refine WpM.seq ?_); have z_ex := (And.intro @wrap_id True.intro); refine WpM.regPE [] [(1, _), (5, _), (48, _), (49, _), (50, _)] (by (refine s_q [(50, _)] ?_; refine s_m [(85, _)] ?_; exact wpS_nil ⟨rfl, rfl⟩)) z_su ?_; clear z_ex)
            refine round_end (x' := i + 1) (St.Le.refl _) (Sub.le z_su) ⟨by omega, _, G, b3, O, rfl, by rw [checkSt, hst]; exact hstep.trans hent, hLed, fun m hm => ⟨(hO m hm).1, ?_⟩, ?_, hbx, hold, rfl⟩ (by omega)
            · have := (hO m hm).2; show m < nx3 + _; omega
            · show n0 < nx3 + _; omega
    · ((repeat refine WpM.seq ?_); refine WpM.condF (by (simp (maxSteps := 2000000) (disch := omega) [go_sem, -List.map_map, hit])) ?_)
      (refine WpM.exit ?_; (repeat (with_reducible (first | refine thenM_exit ?_ | refine blockM_eq ?_ | refine blockM_ne (by decide) ?_))))
      obtain rfl : i = h.txns.length := by omega
      have hr : checkB h = true := by simp [checkB, hnm, hst]; omega
      rw [hr, errno_t]
      ((repeat refine WpM.seq ?_); have z_ex := True.intro; refine WpM.regPE [] [(2, _)] (by (refine s_m [] ?_; exact wpS_nil ⟨rfl, rfl⟩)) z_su ?_; clear z_ex)
      refine WpM.ret ?_
      exact ⟨.inr rfl, Upd.done ⟨_, (by (simp (maxSteps := 2000000) (disch := omega) [go_sem, -List.map_map, resV, resVs, resV1])), rfl, fun m k _ hk => by have h9 := hH _ _ hk; have h8 := hold m k hk; (simp (maxSteps := 2000000) (disch := omega) [go_sem, -List.map_map, h8])⟩⟩
end Go.Proofs.Ytjjmedgibcffhaa
