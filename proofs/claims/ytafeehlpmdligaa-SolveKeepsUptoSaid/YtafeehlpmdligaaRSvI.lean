/- solve: model; slices.Contains of what is known. -/
import Derived.Test.YtafeehlpmdligaaROp
import Derived.Test.YtafeehlpmdligaaRVd
namespace Go.Proofs.Ytafeehlpmdligaa
open Go.RowKit M
set_option linter.unusedSimpArgs false
set_option linter.unusedVariables false
def bl (b : Bool) : V := .d (.bool b)
set_option maxHeartbeats 8000000 in
theorem model59 (H0 : Nat → Option Blk) (sp : Nat) (s : Sv) (S : St) (h : SvS H0 sp s S.get) (hL : s.Len) (hb : s.n ≤ 4096) :
    CallM Try.prog 59 [.ptr sp 0] S fun r S' => ∃ nm, S.next ≤ nm ∧ r = .ms nm 1 0 (s.n + 1) ∧ S'.get nm = some (.row 1 (s.model.map bl)) ∧ ∀ m k, S.get m = some k → S'.get m = some k := by
  refine CallM.start (n := 29) Try.func59 rfl rfl (by simp) (by simp only [argL, Nat.reduceAdd] <;> rfl) ?_
  intro hH
  obtain ⟨H, hHe⟩ : ∃ H, H = S.get := ⟨_, rfl⟩
  obtain ⟨n0, hne⟩ : ∃ n0, n0 = S.next := ⟨_, rfl⟩
  rw [← hHe, ← hne] at hH ⊢
  rw [← hHe] at h
  obtain ⟨na, nv, nr, nd, nc, nt, nl, np, am, nx, et, el, hE⟩ := h
  have k1 := hE.box
  have k2 := hE.rv
  have g1 := hH _ _ k1
  have g2 := hH _ _ k2
  have v1 := hL.val
  have hml : s.model.length = s.n + 1 := by unfold Sv.model; rw [List.length_map]; exact v1
  ((repeat refine WpM.seq ?_); have z_ex := True.intro; refine WpM.regPE [] [(0, _)] (by (refine s_o [] rfl rfl rfl z_su rfl q_move z_fp z_ss ?_; exact wpS_nil ⟨rfl, rfl⟩)) z_su ?_; clear z_ex)
  ((repeat refine WpM.seq ?_); have z_ex := (And.intro @k1 (And.intro @svBox.eq_1 (And.intro @wrap_id True.intro))); refine WpM.regPE [] [(0, _), (3, _)] (by (refine s_o [(0, _)] rfl rfl rfl z_su rfl q_move z_fp z_ss ?_; refine s_o [(5, _)] rfl rfl rfl z_su rfl q_move z_fp z_ss ?_; refine s_o [(6, _)] rfl rfl rfl z_su rfl q_fieldAddr z_fp z_ss ?_; refine s_o [(7, _)] rfl rfl rfl z_su rfl q_load z_fp z_ss ?_; refine s_o [(8, _)] rfl rfl rfl z_su rfl q_full z_fp z_ss ?_; refine s_o [(9, _)] rfl rfl rfl z_su rfl q_full z_fp z_ss ?_; refine s_o [(10, _)] rfl rfl rfl z_su rfl q_move z_fp z_ss ?_; exact wpS_nil ⟨rfl, rfl⟩)) z_su ?_; clear z_ex)
  ((repeat refine WpM.seq ?_); have z_ex := True.intro; refine WpM.regPE [] [(0, _), (3, _), (12, _), (13, _)] (by (refine s_o [(3, _)] rfl rfl rfl z_su rfl q_move z_fp z_ss ?_; refine s_o [(11, _)] rfl rfl rfl z_su rfl q_full z_fp z_ss ?_; refine s_o [] rfl rfl rfl z_su rfl q_move z_fp z_ss ?_; exact wpS_nil ⟨rfl, rfl⟩)) z_su ?_; clear z_ex)
  have hrep : List.replicate (s.n + 1) (V.d (D.bool false)) = (List.replicate (s.n + 1) false).map bl := by rw [List.map_replicate]; rfl
  rw [hrep]
  ((repeat refine WpM.seq ?_); refine WpM.block ?_)
  refine WpM.loop (fun (x : Nat × List Bool) fr S => x.1 ≤ s.n + 1 ∧ x.2.length = s.n + 1 ∧ (∀ i, i < x.1 → x.2.getD i false = s.model.getD i false) ∧ (∃ nn, n0 + 6 < nn ∧ S = ⟨nn, [(n0 + 6, some (.row 1 (x.2.map bl)))], H⟩) ∧ fr = frOf [(0, .ptr sp 0), (3, .ms (n0 + 6) 1 0 (s.n + 1)), (12, .d (.int .i64 (s.n + 1))), (13, .d (.int .i64 x.1))]) (fun x => s.n + 1 - x.1) (0, List.replicate (s.n + 1) false) (St.Le.refl _) (Sub.le z_su) ⟨by omega, by simp, fun i hi => absurd hi (Nat.not_lt_zero _), ⟨_, by omega, rfl⟩, rfl⟩ ?_
  rintro ⟨j, ms⟩ fr S' ⟨hj, hms, hall, ⟨nn, hnn, rfl⟩, rfl⟩
  simp only at hj hms hall
  ((repeat refine WpM.seq ?_); have z_ex := True.intro; refine WpM.regPE [] [(0, _), (3, _), (12, _), (13, _), (14, _)] (by (refine s_o [(12, _), (13, _)] rfl rfl rfl z_su rfl q_full z_fp z_ss ?_; exact wpS_nil ⟨rfl, rfl⟩)) z_su ?_; clear z_ex)
  by_cases hjt : j < s.n + 1
  · have hjt' : (j : Int) < s.n + 1 := by omega
    ((repeat refine WpM.seq ?_); refine WpM.condT (by (simp (maxSteps := 2000000) (disch := omega) [go_sem, -List.map_map, hjt'])) ?_)
    refine WpM.skip ?_
    ((repeat refine WpM.seq ?_); refine WpM.block ?_)
    have hget := i8_get (val := s.val) (v := j) (by omega)
    have hgm : (ms.map bl)[j]? = some (.d (.bool (ms.getD j false))) := by simp [bl, hms, hjt]
    obtain ⟨x, hx⟩ : ∃ x, x = s.val.getD j 0 := ⟨_, rfl⟩
    rw [← hx] at hget
    have hmj : s.model.getD j false = decide (0 < x) := by
      unfold Sv.model
      rw [hx]
      simp [show j < s.val.length by omega]
    ((repeat refine WpM.seq ?_); have z_ex := True.intro; refine WpM.regPE [] [(0, _), (3, _), (4, _), (12, _), (13, _)] (by (refine s_o [(13, _)] rfl rfl rfl z_su rfl q_move z_fp z_ss ?_; refine s_o [(15, _)] rfl rfl rfl z_su rfl q_move z_fp z_ss ?_; exact wpS_nil ⟨rfl, rfl⟩)) z_su ?_; clear z_ex)
    have hnv : n0 + 6 ≠ nv := by omega
    have hns : n0 + 6 ≠ sp := by omega
    ((repeat refine WpM.seq ?_); have z_ex := (And.intro @k1 (And.intro @k2 (And.intro @svBox.eq_1 (And.intro @hget (And.intro @hjt (And.intro @hgm True.intro)))))); refine WpM.regPE [] [(0, _), (3, _), (12, _), (13, _)] (by (refine s_o [(3, _)] rfl rfl rfl z_su rfl q_move z_fp z_ss ?_; refine s_o [(4, _)] rfl rfl rfl z_su rfl q_move z_fp z_ss ?_; refine s_o [(0, _)] rfl rfl rfl z_su rfl q_move z_fp z_ss ?_; refine s_o [(18, _)] rfl rfl rfl z_su rfl q_move z_fp z_ss ?_; refine s_o [(19, _)] rfl rfl rfl z_su rfl q_fieldAddr z_fp z_ss ?_; refine s_o [(20, _)] rfl rfl rfl z_su rfl q_load z_fp z_ss ?_; refine s_o [(4, _)] rfl rfl rfl z_su rfl q_move z_fp z_ss ?_; refine s_o [(21, _), (22, _)] rfl rfl rfl z_su rfl q_full z_fp z_ss ?_; refine s_o [(23, _)] rfl rfl rfl z_su rfl q_load z_fp z_ss ?_; refine s_o [(24, _)] rfl rfl rfl z_su rfl q_full z_fp z_ss ?_; refine s_o [(16, _), (17, _)] rfl rfl rfl z_su rfl q_full z_fp z_ss ?_; refine s_o [(25, _), (26, _)] rfl rfl rfl z_su rfl q_store z_fp z_ss ?_; exact wpS_nil ⟨rfl, rfl⟩)) z_su ?_; clear z_ex)
    have hset : (List.map bl ms).set j ([V.d (D.bool (decide (0 < x)))].headD V.undef) = (ms.set j (decide (0 < x))).map bl := by rw [List.map_set]; rfl
    rw [hset]
    refine blockM_norm ?_
    ((repeat refine WpM.seq ?_); have z_ex := (And.intro @wrap_id True.intro); refine WpM.regPE [] [(0, _), (3, _), (12, _), (13, _)] (by (refine s_o [(13, _)] rfl rfl rfl z_su rfl q_full z_fp z_ss ?_; refine s_o [(27, _)] rfl rfl rfl z_su rfl q_move z_fp z_ss ?_; exact wpS_nil ⟨rfl, rfl⟩)) z_su ?_; clear z_ex)
    exact round_end (x' := (j + 1, ms.set j (decide (0 < x)))) (St.Le.refl _) (Sub.le z_su) ⟨by simp only; omega, by simp [hms], fun i hi => by
      rw [getD_set']
      simp only at hi
      by_cases he : i = j
      · subst he
        rw [if_pos ⟨rfl, by omega⟩, hmj]
      · rw [if_neg (fun e => he e.1)]
        exact hall i (by omega), ⟨_, by omega, rfl⟩, rfl⟩ (by simp only; omega)
  · have hjt' : ¬ (j : Int) < s.n + 1 := by omega
    ((repeat refine WpM.seq ?_); refine WpM.condF (by (simp (maxSteps := 2000000) (disch := omega) [go_sem, -List.map_map, hjt'])) ?_)
    (refine WpM.exit ?_; (repeat (with_reducible (first | refine thenM_exit ?_ | refine blockM_eq ?_ | refine blockM_ne (by decide) ?_))))
    obtain rfl : j = s.n + 1 := by omega
    have hme : ms = s.model := by
      refine List.ext_getElem (by omega) fun i h1 h2 => ?_
      have := hall i (by omega)
      simpa [h1, h2] using this
    ((repeat refine WpM.seq ?_); have z_ex := True.intro; refine WpM.regPE [] [(2, _)] (by (refine s_o [(3, _)] rfl rfl rfl z_su rfl q_move z_fp z_ss ?_; refine s_o [(28, _)] rfl rfl rfl z_su rfl q_move z_fp z_ss ?_; exact wpS_nil ⟨rfl, rfl⟩)) z_su ?_; clear z_ex)
    refine WpM.ret ?_
    refine ⟨.inr rfl, Upd.done ⟨.ms (n0 + 6) 1 0 (s.n + 1), (by (simp (maxSteps := 2000000) (disch := omega) [go_sem, -List.map_map, resV, resVs, resV1])), n0 + 6, by omega, rfl, ?_, fun m k hk => ?_⟩⟩
    · rw [hme]; (simp (maxSteps := 2000000) (disch := omega) [go_sem, -List.map_map])
    · have := hH _ _ hk
      (simp (maxSteps := 2000000) (disch := omega) [go_sem, -List.map_map, hk])
theorem index70 (nv : Nat) (val : List Int) (x : Int) (o n : Nat) (S : St) (hrow : S.get nv = some (.row 1 (val.map i8))) (hl : o + n = val.length) (hv : val.length ≤ 100000) :
    PureS Try.prog 70 [.ms nv 1 o n, .d (.int .i8 x)] (.d (.int .i64 (match (val.drop o).findIdx? (fun y => decide (y = x)) with | some i => i | none => -1))) S := by
  refine PureS.of (n := 19) Try.func70 rfl rfl (by simp) (by simp only [argL, Nat.reduceAdd] <;> rfl) rfl ?_
  intro n0 H hH0 hH
  rw [hH0] at hrow
  have g1 := hH _ _ hrow
  ((repeat refine WpM.seq ?_); have z_ex := True.intro; refine WpM.regPE [] [(0, _), (1, _)] (by (refine s_o [] rfl rfl rfl z_su rfl q_move z_fp z_ss ?_; exact wpS_nil ⟨rfl, rfl⟩)) z_su ?_; clear z_ex)
  ((repeat refine WpM.seq ?_); have z_ex := True.intro; refine WpM.regPE [] [(0, _), (1, _), (7, _), (8, _)] (by (refine s_o [(0, _)] rfl rfl rfl z_su rfl q_move z_fp z_ss ?_; refine s_o [(6, _)] rfl rfl rfl z_su rfl q_full z_fp z_ss ?_; refine s_o [] rfl rfl rfl z_su rfl q_move z_fp z_ss ?_; exact wpS_nil ⟨rfl, rfl⟩)) z_su ?_; clear z_ex)
  obtain ⟨ys, hys⟩ : ∃ ys, ys = val.drop o := ⟨_, rfl⟩
  have hyl : ys.length = n := by rw [hys, List.length_drop]; omega
  rw [← hys]
  ((repeat refine WpM.seq ?_); refine WpM.block ?_)
  refine WpM.loop (fun (j : Nat) fr S => j ≤ n ∧ (∀ i (h : i < ys.length), i < j → ys[i] ≠ x) ∧ (∃ nn, n0 ≤ nn ∧ S = ⟨nn, [], H⟩) ∧ fr = frOf [(0, .ms nv 1 o n), (1, .d (.int .i8 x)), (7, .d (.int .i64 n)), (8, .d (.int .i64 j))]) (fun j => n - j) 0 (St.Le.refl _) (Sub.le z_su) ⟨by omega, fun i _ h => by omega, ⟨_, by omega, rfl⟩, rfl⟩ ?_
  rintro j fr S' ⟨hj, hall, ⟨nn, hnn, rfl⟩, rfl⟩
  ((repeat refine WpM.seq ?_); have z_ex := True.intro; refine WpM.regPE [] [(0, _), (1, _), (7, _), (8, _), (9, _)] (by (refine s_o [(7, _), (8, _)] rfl rfl rfl z_su rfl q_full z_fp z_ss ?_; exact wpS_nil ⟨rfl, rfl⟩)) z_su ?_; clear z_ex)
  by_cases hjt : j < n
  · ((repeat refine WpM.seq ?_); refine WpM.condT (by (simp (maxSteps := 2000000) (disch := omega) [go_sem, -List.map_map, hjt])) ?_)
    refine WpM.skip ?_
    ((repeat refine WpM.seq ?_); refine WpM.block ?_)
    obtain ⟨y, hy⟩ : ∃ y, y = ys[j] := ⟨_, rfl⟩
    have hget : (val.map i8)[o + j]? = some (.d (.int .i8 y)) := by
      rw [hy]
      simp [hys, i8, show o + j < val.length by omega]
    ((repeat refine WpM.seq ?_); have z_ex := True.intro; refine WpM.regPE [] [(0, _), (1, _), (5, _), (7, _), (8, _)] (by (refine s_o [(8, _)] rfl rfl rfl z_su rfl q_move z_fp z_ss ?_; refine s_o [(10, _)] rfl rfl rfl z_su rfl q_move z_fp z_ss ?_; exact wpS_nil ⟨rfl, rfl⟩)) z_su ?_; clear z_ex)
    by_cases hyx : y = x
    · subst hyx
      ((repeat refine WpM.seq ?_); have z_ex := (And.intro @hrow (And.intro @hget (And.intro @hjt True.intro))); refine WpM.regPE [] [(0, _), (1, _), (5, _), (7, _), (8, _), (16, _)] (by (refine s_o [(1, _)] rfl rfl rfl z_su rfl q_move z_fp z_ss ?_; refine s_o [(0, _)] rfl rfl rfl z_su rfl q_move z_fp z_ss ?_; refine s_o [(5, _)] rfl rfl rfl z_su rfl q_move z_fp z_ss ?_; refine s_o [(12, _), (13, _)] rfl rfl rfl z_su rfl q_full z_fp z_ss ?_; refine s_o [(14, _)] rfl rfl rfl z_su rfl q_load z_fp z_ss ?_; refine s_o [(11, _), (15, _)] rfl rfl rfl z_su rfl q_full z_fp z_ss ?_; exact wpS_nil ⟨rfl, rfl⟩)) z_su ?_; clear z_ex)
      ((repeat refine WpM.seq ?_); refine WpM.condT (by (simp (maxSteps := 2000000) (disch := omega) [go_sem, -List.map_map])) ?_)
      ((repeat refine WpM.seq ?_); have z_ex := True.intro; refine WpM.regPE [] [(4, _)] (by (refine s_o [(5, _)] rfl rfl rfl z_su rfl q_move z_fp z_ss ?_; refine s_o [(17, _)] rfl rfl rfl z_su rfl q_move z_fp z_ss ?_; exact wpS_nil ⟨rfl, rfl⟩)) z_su ?_; clear z_ex)
      have hf : ys.findIdx? (fun z => decide (z = y)) = some j := by
        rw [List.findIdx?_eq_some_iff_getElem]
        exact ⟨by omega, by rw [← hy]; simp, fun i hi => by simpa using hall i (by omega) hi⟩
      (refine WpM.ret ?_; refine ⟨.inr rfl, Upd.done ?_⟩; (simp (maxSteps := 2000000) (disch := omega) [go_sem, -List.map_map, resV, resVs, resV1, hf]))
    · have hxy : ¬ x = y := fun e => hyx e.symm
      ((repeat refine WpM.seq ?_); have z_ex := (And.intro @hrow (And.intro @hget (And.intro @hjt (And.intro @hyx (And.intro @hxy True.intro))))); refine WpM.regPE [] [(0, _), (1, _), (5, _), (7, _), (8, _), (16, _)] (by (refine s_o [(1, _)] rfl rfl rfl z_su rfl q_move z_fp z_ss ?_; refine s_o [(0, _)] rfl rfl rfl z_su rfl q_move z_fp z_ss ?_; refine s_o [(5, _)] rfl rfl rfl z_su rfl q_move z_fp z_ss ?_; refine s_o [(12, _), (13, _)] rfl rfl rfl z_su rfl q_full z_fp z_ss ?_; refine s_o [(14, _)] rfl rfl rfl z_su rfl q_load z_fp z_ss ?_; refine s_o [(11, _), (15, _)] rfl rfl rfl z_su rfl q_full z_fp z_ss ?_; exact wpS_nil ⟨rfl, rfl⟩)) z_su ?_; clear z_ex)
      ((repeat refine WpM.seq ?_); refine WpM.condF (by (simp (maxSteps := 2000000) (disch := omega) [go_sem, -List.map_map, hyx, hxy])) ?_)
      refine WpM.skip ?_
      ((repeat refine WpM.seq ?_); have z_ex := (And.intro @wrap_id True.intro); refine WpM.regPE [] [(0, _), (1, _), (7, _), (8, _)] (by (refine s_o [(8, _)] rfl rfl rfl z_su rfl q_full z_fp z_ss ?_; refine s_o [(18, _)] rfl rfl rfl z_su rfl q_move z_fp z_ss ?_; exact wpS_nil ⟨rfl, rfl⟩)) z_su ?_; clear z_ex)
      exact round_end (x' := j + 1) (St.Le.refl _) (Sub.le z_su) ⟨by omega, fun i h1 h2 => by
        rcases Nat.lt_or_ge i j with h3 | h3
        · exact hall i h1 h3
        · obtain rfl : i = j := by omega
          rw [← hy]; exact hyx, ⟨_, by omega, rfl⟩, rfl⟩ (by omega)
  · ((repeat refine WpM.seq ?_); refine WpM.condF (by (simp (maxSteps := 2000000) (disch := omega) [go_sem, -List.map_map, hjt])) ?_)
    (refine WpM.exit ?_; (repeat (with_reducible (first | refine thenM_exit ?_ | refine blockM_eq ?_ | refine blockM_ne (by decide) ?_))))
    ((repeat refine WpM.seq ?_); have z_ex := True.intro; refine WpM.regPE [] [(4, _)] (by (refine s_o [] rfl rfl rfl z_su rfl q_move z_fp z_ss ?_; exact wpS_nil ⟨rfl, rfl⟩)) z_su ?_; clear z_ex)
    have hf : ys.findIdx? (fun y => decide (y = x)) = none := by
      rw [List.findIdx?_eq_none_iff]
      intro y hy
      obtain ⟨i, hi, rfl⟩ := List.getElem_of_mem hy
      simpa using hall i hi (by omega)
    (refine WpM.ret ?_; refine ⟨.inr rfl, Upd.done ?_⟩; (simp (maxSteps := 2000000) (disch := omega) [go_sem, -List.map_map, resV, resVs, resV1, hf]))
theorem contains55 (nv : Nat) (val : List Int) (x : Int) (o n : Nat) (S : St) (hrow : S.get nv = some (.row 1 (val.map i8))) (hl : o + n = val.length) (hv : val.length ≤ 100000) :
    PureS Try.prog 55 [.ms nv 1 o n, .d (.int .i8 x)] (.d (.bool (decide (x ∈ val.drop o)))) S := by
  refine PureS.of (n := 9) Try.func55 rfl rfl (by simp) (by simp only [argL, Nat.reduceAdd] <;> rfl) rfl ?_
  intro n0 H hH0 hH
  rw [hH0] at hrow
  have hI := fun n' => index70 nv val x o n ⟨n', [], H⟩ hrow hl hv
  cases hf : (val.drop o).findIdx? (fun y => decide (y = x)) with
  | none =>
    rw [hf] at hI
    have hm : x ∉ val.drop o := fun hm => by
      rw [List.findIdx?_eq_none_iff] at hf
      have := hf x hm
      simp at this
    have hd : decide (x ∈ val.drop o) = false := decide_eq_false hm
    ((repeat refine WpM.seq ?_); have z_ex := True.intro; refine WpM.regPE [] [(0, _), (1, _)] (by (refine s_o [] rfl rfl rfl z_su rfl q_move z_fp z_ss ?_; exact wpS_nil ⟨rfl, rfl⟩)) z_su ?_; clear z_ex)
    ((repeat refine WpM.seq ?_); have z_ex := True.intro; refine WpM.regPE [] [(4, _)] (by (refine s_o [(0, _)] rfl rfl rfl z_su rfl q_move z_fp z_ss ?_; refine s_o [(1, _)] rfl rfl rfl z_su rfl q_move z_fp z_ss ?_; refine s_at (callOf_eq rfl rfl rfl (mlk_tmp z_lk (mlk_tmp z_lk mlk_nil))) (hI _) rfl rfl z_ip z_fp ?_; refine s_o [(7, _)] rfl rfl rfl z_su rfl q_full z_fp z_ss ?_; refine s_o [(8, _)] rfl rfl rfl z_su rfl q_move z_fp z_ss ?_; exact wpS_nil ⟨rfl, rfl⟩)) z_su ?_; clear z_ex)
    (refine WpM.ret ?_; refine ⟨.inr rfl, Upd.done ?_⟩; (simp (maxSteps := 2000000) (disch := omega) [go_sem, -List.map_map, resV, resVs, resV1, hd]))
  | some i =>
    rw [hf] at hI
    have hm : x ∈ val.drop o := by
      obtain ⟨h1, h2, _⟩ := List.findIdx?_eq_some_iff_getElem.1 hf
      have : (val.drop o)[i] = x := by simpa using h2
      rw [← this]; exact List.getElem_mem _
    have hd : decide (x ∈ val.drop o) = true := decide_eq_true hm
    have hi0 : (0 : Int) ≤ i := by omega
    ((repeat refine WpM.seq ?_); have z_ex := True.intro; refine WpM.regPE [] [(0, _), (1, _)] (by (refine s_o [] rfl rfl rfl z_su rfl q_move z_fp z_ss ?_; exact wpS_nil ⟨rfl, rfl⟩)) z_su ?_; clear z_ex)
    ((repeat refine WpM.seq ?_); have z_ex := (And.intro @hi0 True.intro); refine WpM.regPE [] [(4, _)] (by (refine s_o [(0, _)] rfl rfl rfl z_su rfl q_move z_fp z_ss ?_; refine s_o [(1, _)] rfl rfl rfl z_su rfl q_move z_fp z_ss ?_; refine s_at (callOf_eq rfl rfl rfl (mlk_tmp z_lk (mlk_tmp z_lk mlk_nil))) (hI _) rfl rfl z_ip z_fp ?_; refine s_o [(7, _)] rfl rfl rfl z_su rfl q_full z_fp z_ss ?_; refine s_o [(8, _)] rfl rfl rfl z_su rfl q_move z_fp z_ss ?_; exact wpS_nil ⟨rfl, rfl⟩)) z_su ?_; clear z_ex)
    (refine WpM.ret ?_; refine ⟨.inr rfl, Upd.done ?_⟩; (simp (maxSteps := 2000000) (disch := omega) [go_sem, -List.map_map, resV, resVs, resV1, hd]))
end Go.Proofs.Ytafeehlpmdligaa
