/- solve: add. -/
import Derived.Test.YtafeehlpmdligaaROp
import Derived.Test.YtafeehlpmdligaaRVa
import Derived.Test.YtafeehlpmdligaaRVd
import Derived.Test.YtafeehlpmdligaaRVb
namespace Go.Proofs.Ytafeehlpmdligaa
open Go.RowKit M
set_option linter.unusedSimpArgs false
set_option linter.unusedVariables false
set_option maxHeartbeats 8000000 in
theorem add52 (H0 : Nat → Option Blk) (sp : Nat) (s : Sv) (c : List Int) (S : St) (h : SvS H0 sp s S.get) (hm : mass s.cs + c.length ≤ 1000000000) (hl : ∀ l ∈ c, -4096 ≤ l ∧ l ≤ 4096) :
    CallM Try.prog 52 [.ptr sp 0, .d (ints c)] S fun r S' => r = .d (.int .i64 s.cs.length) ∧ SvS H0 sp { s with cs := s.cs ++ [c] } S'.get := by
  refine CallM.start (n := 47) Try.func52 rfl rfl (by simp) (by simp only [argL, Nat.reduceAdd] <;> rfl) ?_
  intro hH
  obtain ⟨H, hHe⟩ : ∃ H, H = S.get := ⟨_, rfl⟩
  obtain ⟨n0, hne⟩ : ∃ n0, n0 = S.next := ⟨_, rfl⟩
  rw [← hHe, ← hne] at hH ⊢
  rw [← hHe] at h
  obtain ⟨na, nv, nr, nd, nc, nt, nl, np, am, nx, et, el, hE⟩ := h
  have k1 := hE.box
  have k2 := hE.rc
  have g1 := hH _ _ k1
  have g2 := hH _ _ k2
  have a5 := hE.o5
  have hlm := len_mass s.cs
  have hcl : (s.cs.map fun c => V.d (ints c)).take s.cs.length = s.cs.map fun c => V.d (ints c) := List.take_of_length_le (by simp)
  have hne1 : sp ≠ nc := by omega
  ((repeat refine WpM.seq ?_); have z_ex := True.intro; refine WpM.regPE [] [(0, _), (1, _)] (by (refine s_o [] rfl rfl rfl z_su rfl q_move z_fp z_ss ?_; exact wpS_nil ⟨rfl, rfl⟩)) z_su ?_; clear z_ex)
  ((repeat refine WpM.seq ?_); have z_ex := (And.intro @k1 (And.intro @svBox.eq_1 True.intro)); refine WpM.regPE [] [(0, _), (1, _), (5, _)] (by (refine s_o [(0, _)] rfl rfl rfl z_su rfl q_move z_fp z_ss ?_; refine s_o [(8, _)] rfl rfl rfl z_su rfl q_move z_fp z_ss ?_; refine s_o [(9, _)] rfl rfl rfl z_su rfl q_fieldAddr z_fp z_ss ?_; refine s_o [(10, _)] rfl rfl rfl z_su rfl q_load z_fp z_ss ?_; refine s_o [(11, _)] rfl rfl rfl z_su rfl q_full z_fp z_ss ?_; refine s_o [(12, _)] rfl rfl rfl z_su rfl q_move z_fp z_ss ?_; exact wpS_nil ⟨rfl, rfl⟩)) z_su ?_; clear z_ex)
  ((repeat refine WpM.seq ?_); have z_ex := (And.intro @k1 (And.intro @k2 (And.intro @svBox.eq_1 (And.intro @ints.eq_1 (And.intro @hcl True.intro))))); refine WpM.regPE [] [(0, _), (1, _), (5, _)] (by (refine s_o [(0, _)] rfl rfl rfl z_su rfl q_move z_fp z_ss ?_; refine s_o [(0, _)] rfl rfl rfl z_su rfl q_move z_fp z_ss ?_; refine s_o [(14, _)] rfl rfl rfl z_su rfl q_move z_fp z_ss ?_; refine s_o [(15, _)] rfl rfl rfl z_su rfl q_fieldAddr z_fp z_ss ?_; refine s_o [(16, _)] rfl rfl rfl z_su rfl q_load z_fp z_ss ?_; refine s_o [(1, _)] rfl rfl rfl z_su rfl q_move z_fp z_ss ?_; refine s_o [(18, _)] rfl rfl rfl z_su rfl q_full z_fp z_ss ?_; refine s_o [(17, _), (19, _)] rfl rfl rfl z_su rfl q_full z_fp z_ss ?_; refine s_o [(13, _)] rfl rfl rfl z_su rfl q_move z_fp z_ss ?_; refine s_o [(21, _)] rfl rfl rfl z_su rfl q_fieldAddr z_fp z_ss ?_; refine s_o [(20, _), (22, _)] rfl rfl rfl z_su rfl q_store z_fp z_ss ?_; exact wpS_nil ⟨rfl, rfl⟩)) z_su ?_; clear z_ex)
  ((repeat refine WpM.seq ?_); have z_ex := (And.intro @ints.eq_1 True.intro); refine WpM.regPE [] [(0, _), (5, _), (23, _), (24, _), (25, _)] (by (refine s_o [(1, _)] rfl rfl rfl z_su rfl q_move z_fp z_ss ?_; refine s_o [(23, _)] rfl rfl rfl z_su rfl q_full z_fp z_ss ?_; refine s_o [] rfl rfl rfl z_su rfl q_move z_fp z_ss ?_; exact wpS_nil ⟨rfl, rfl⟩)) z_su ?_; clear z_ex)
  ((repeat refine WpM.seq ?_); refine WpM.block ?_)
  refine WpM.norm ?_
  intro nx0 G0 hnx0 hG0 hk0
  have hnx0 : nx0 = n0 + 21 := hnx0
  have hclu : (s.cs.map fun c => V.d (D.sl (c.map (D.int .i64)))).take s.cs.length = s.cs.map fun c => V.d (D.sl (c.map (D.int .i64))) := hcl
  have hE0 : SvE H0 sp { s with cs := s.cs ++ [c] } (ocs s.cs) G0 na nv nr nd (n0 + 14) nt nl np am nx et el := by
    refine hE.clause c (n0 + 14) (fun m k hk => by have := hH _ _ hk; omega) ?_ ?_ ?_
    · rw [hG0]; (simp (maxSteps := 2000000) (disch := omega) [go_sem, -List.map_map, svBox])
    · rw [hG0]; (simp (maxSteps := 2000000) (disch := omega) [go_sem, -List.map_map, hclu, ints])
    · intro m k hk m1 m2
      have := hH _ _ hk
      rw [hG0]
      (simp (maxSteps := 2000000) (disch := omega) [go_sem, -List.map_map, hk, m1, m2])
  have hgk0 : ∀ m k, G0 m = some k → m < nx0 := hk0
  clear hG0 hk0
  refine WpM.loop (fun (j : Nat) fr S => j ≤ c.length ∧ ∃ nn G nc' am nx, S = ⟨nn, [], G⟩ ∧ SvE H0 sp { s with cs := s.cs ++ [c] } (ocAdd (ocs s.cs) s.cs.length (c.take j)) G na nv nr nd nc' nt nl np am nx et el ∧
      fr = frOf [(0, .ptr sp 0), (5, .d (.int .i64 s.cs.length)), (23, .d (ints c)), (24, .d (.int .i64 c.length)), (25, .d (.int .i64 j))]) (fun j => c.length - j) 0 (St.Le.refl _) (Sub.le z_su) ⟨by omega, _, _, n0 + 14, am, nx, rfl, hE0, rfl⟩ ?_
  clear hE0 hgk0 hE k1 k2
  rintro j fr S' ⟨hj, nn, G, nc', am, nx, rfl, hE, rfl⟩
  refine WpM.known fun hG => ?_
  have hG : ∀ m k, G m = some k → m < nn := hG
  ((repeat refine WpM.seq ?_); have z_ex := True.intro; refine WpM.regPE [] [(0, _), (5, _), (23, _), (24, _), (25, _), (26, _)] (by (refine s_o [(24, _), (25, _)] rfl rfl rfl z_su rfl q_full z_fp z_ss ?_; exact wpS_nil ⟨rfl, rfl⟩)) z_su ?_; clear z_ex)
  by_cases hlt : j < c.length
  · ((repeat refine WpM.seq ?_); refine WpM.condT (by (simp (maxSteps := 2000000) (disch := omega) [go_sem, -List.map_map, hlt])) ?_)
    refine WpM.skip ?_
    ((repeat refine WpM.seq ?_); refine WpM.block ?_)
    have hlj := hl c[j] (List.getElem_mem _)
    obtain ⟨l, hle⟩ : ∃ l, l = c[j] := ⟨_, rfl⟩
    have hget : (c.map (D.int .i64))[j]? = some (.int .i64 l) := by simp [hlt, hle]
    rw [← hle] at hlj
    obtain ⟨hl1, hl2⟩ := hlj
    ((repeat refine WpM.seq ?_); have z_ex := (And.intro @hget (And.intro @ints.eq_1 (And.intro @hlt True.intro))); refine WpM.regPE [] [(0, _), (5, _), (7, _), (23, _), (24, _), (25, _)] (by (refine s_o [(23, _), (25, _)] rfl rfl rfl z_su rfl q_full z_fp z_ss ?_; refine s_o [(27, _)] rfl rfl rfl z_su rfl q_load z_fp z_ss ?_; refine s_o [(28, _)] rfl rfl rfl z_su rfl q_move z_fp z_ss ?_; exact wpS_nil ⟨rfl, rfl⟩)) z_su ?_; clear z_ex)
    have hoc : ocAdd (ocs s.cs) s.cs.length (c.take (j + 1)) = ocPut (ocAdd (ocs s.cs) s.cs.length (c.take j)) s.cs.length (- -l) := by
      rw [List.take_succ_eq_append_getElem hlt, ← hle]
      simp [ocAdd, List.foldl_append]
    have k1 := hE.box
    have k3 := hE.at_.map
    have g1 := hG _ _ k1
    have g3 := hG _ _ k3
    have hol : (ocAdd (ocs s.cs) s.cs.length (c.take j) (-l)).length ≤ 1000000000 := by
      have h1 := len_ocAdd (n := s.cs.length) (l := -l) (c.take j) (ocs s.cs)
      have h2 := len_ocs (l := -l) s.cs
      rw [List.length_take] at h1
      omega
    obtain ⟨oc, hoce⟩ : ∃ oc, oc = ocAdd (ocs s.cs) s.cs.length (c.take j) := ⟨_, rfl⟩
    rw [← hoce] at hE hoc hol
    have hnone := hE.at_.none (-l)
    have hsome := hE.at_.some (-l)
    obtain ⟨L, hL⟩ : ∃ L, L = oc (-l) := ⟨_, rfl⟩
    rw [← hL] at hnone hsome hol
    by_cases ho : L = []
    · have k6 := hnone ho
      ((repeat refine WpM.seq ?_); have z_ex := (And.intro @k1 (And.intro @k3 (And.intro @k6 (And.intro @svBox.eq_1 (And.intro @wrap_neg (And.intro @wrap_0sub True.intro)))))); refine WpM.drwPE [] [(0, _), (5, _), (23, _), (24, _), (25, _)] mixed (slots_of (by kernel_rfl)) (by kernel_rfl) [(3, 14), (9, 14), (12, 14), (3, 15)] (unord_of (by kernel_rfl)) (by (refine d_o [(0, _)] rfl rfl rfl z_su rfl q_move z_fp z_ss rfl ?_; refine d_o [(29, _)] rfl rfl rfl z_su rfl q_move z_fp z_ss rfl ?_; refine d_o [(30, _)] rfl rfl rfl z_su rfl q_fieldAddr z_fp z_ss rfl ?_; refine d_o [(31, _)] rfl rfl rfl z_su rfl q_load z_fp z_ss rfl ?_; refine d_o [(7, _)] rfl rfl rfl z_su rfl q_move z_fp z_ss rfl ?_; refine d_o [(33, _)] rfl rfl rfl z_su rfl q_unOp z_fp z_ss rfl ?_; refine d_o [(0, _)] rfl rfl rfl z_su rfl q_move z_fp z_ss rfl ?_; refine d_o [(35, _)] rfl rfl rfl z_su rfl q_move z_fp z_ss rfl ?_; refine d_o [(36, _)] rfl rfl rfl z_su rfl q_fieldAddr z_fp z_ss rfl ?_; refine d_o [(37, _)] rfl rfl rfl z_su rfl q_load z_fp z_ss rfl ?_; refine d_o [(7, _)] rfl rfl rfl z_su rfl q_move z_fp z_ss rfl ?_; refine d_o [(39, _)] rfl rfl rfl z_su rfl q_unOp z_fp z_ss rfl ?_; refine d_o [(38, _), (40, _)] rfl rfl rfl z_su rfl q_lookup z_fp z_ss rfl ?_; refine d_o [(5, _)] rfl rfl rfl z_su rfl q_move z_fp z_ss rfl ?_; refine d_o [(42, _)] rfl rfl rfl z_su rfl q_full z_fp z_ss rfl ?_; refine d_o [(41, _), (43, _)] rfl rfl rfl z_su rfl q_full z_fp z_ss rfl ?_; refine d_o [(32, _), (34, _), (44, _)] rfl rfl rfl z_su rfl q_mapUpdate z_fp z_ss rfl ?_; exact d_end z_mt z_sn)) z_su ?_; clear z_ex)
      refine WpM.norm ?_
      intro nn1 G1 hnn1 hG1 hk1
      have q4 := hE.atPut (G' := G1) (-l) (nn + 19) s.cs.length (fun m k hk => by have := hG m k hk; omega) (by rw [hG1, ← hL]; (simp (maxSteps := 2000000) (disch := omega) [go_sem, -List.map_map, ho])) (by rw [hG1, ← hL]; (simp (maxSteps := 2000000) (disch := omega) [go_sem, -List.map_map, ho, nlit])) (by
        intro m h1 h2 h3
        rw [hG1]
        (simp (maxSteps := 2000000) (disch := omega) [go_sem, -List.map_map, h1, h2]))
      rw [← hoc] at q4
      clear hG1 hk1 hnn1
      ((repeat refine WpM.seq ?_); have z_ex := (And.intro @wrap_id True.intro); refine WpM.regPE [] [(0, _), (5, _), (23, _), (24, _), (25, _)] (by (refine s_o [(25, _)] rfl rfl rfl z_su rfl q_full z_fp z_ss ?_; refine s_o [(45, _)] rfl rfl rfl z_su rfl q_move z_fp z_ss ?_; exact wpS_nil ⟨rfl, rfl⟩)) z_su ?_; clear z_ex)
      exact round_end (x' := j + 1) (St.Le.refl _) (Sub.le z_su) ⟨by omega, _, G1, nc', _, _, rfl, q4, rfl⟩ (by omega)
    · obtain ⟨k6, k7, _⟩ := hsome ho
      have g7 := hG _ _ k7
      have r1 := (hE.apart (-l) (by rw [← hL]; exact ho)).1
      have o1 := hE.o1
      have o2 := hE.o2
      have o3 := hE.o3
      have o4 := hE.o4
      have hnr : na ≠ nx (-l) := by omega
      have htk : (L.map nlit).take L.length = L.map nlit := List.take_of_length_le (by simp)
      ((repeat refine WpM.seq ?_); have z_ex := (And.intro @k1 (And.intro @k3 (And.intro @k6 (And.intro @k7 (And.intro @svBox.eq_1 (And.intro @htk (And.intro @wrap_neg (And.intro @wrap_0sub True.intro)))))))); refine WpM.drwPE [] [(0, _), (5, _), (23, _), (24, _), (25, _)] mixed (slots_of (by kernel_rfl)) (by kernel_rfl) [(3, 14), (9, 14), (12, 14), (3, 15)] (unord_of (by kernel_rfl)) (by (refine d_o [(0, _)] rfl rfl rfl z_su rfl q_move z_fp z_ss rfl ?_; refine d_o [(29, _)] rfl rfl rfl z_su rfl q_move z_fp z_ss rfl ?_; refine d_o [(30, _)] rfl rfl rfl z_su rfl q_fieldAddr z_fp z_ss rfl ?_; refine d_o [(31, _)] rfl rfl rfl z_su rfl q_load z_fp z_ss rfl ?_; refine d_o [(7, _)] rfl rfl rfl z_su rfl q_move z_fp z_ss rfl ?_; refine d_o [(33, _)] rfl rfl rfl z_su rfl q_unOp z_fp z_ss rfl ?_; refine d_o [(0, _)] rfl rfl rfl z_su rfl q_move z_fp z_ss rfl ?_; refine d_o [(35, _)] rfl rfl rfl z_su rfl q_move z_fp z_ss rfl ?_; refine d_o [(36, _)] rfl rfl rfl z_su rfl q_fieldAddr z_fp z_ss rfl ?_; refine d_o [(37, _)] rfl rfl rfl z_su rfl q_load z_fp z_ss rfl ?_; refine d_o [(7, _)] rfl rfl rfl z_su rfl q_move z_fp z_ss rfl ?_; refine d_o [(39, _)] rfl rfl rfl z_su rfl q_unOp z_fp z_ss rfl ?_; refine d_o [(38, _), (40, _)] rfl rfl rfl z_su rfl q_lookup z_fp z_ss rfl ?_; refine d_o [(5, _)] rfl rfl rfl z_su rfl q_move z_fp z_ss rfl ?_; refine d_o [(42, _)] rfl rfl rfl z_su rfl q_full z_fp z_ss rfl ?_; refine d_o [(41, _), (43, _)] rfl rfl rfl z_su rfl q_full z_fp z_ss rfl ?_; refine d_o [(32, _), (34, _), (44, _)] rfl rfl rfl z_su rfl q_mapUpdate z_fp z_ss rfl ?_; exact d_end z_mt z_sn)) z_su ?_; clear z_ex)
      refine WpM.norm ?_
      intro nn1 G1 hnn1 hG1 hk1
      have q4 := hE.atPut (G' := G1) (-l) (nn + 19) s.cs.length (fun m k hk => by have := hG m k hk; omega) (by rw [hG1, ← hL]; (simp (maxSteps := 2000000) (disch := omega) [go_sem, -List.map_map])) (by rw [hG1, ← hL]; (simp (maxSteps := 2000000) (disch := omega) [go_sem, -List.map_map, nlit])) (by
        intro m h1 h2 h3
        rw [← hL] at h3
        have h3 := h3 ho
        rw [hG1]
        (simp (maxSteps := 2000000) (disch := omega) [go_sem, -List.map_map, h1, h2, h3]))
      rw [← hoc] at q4
      clear hG1 hk1 hnn1
      ((repeat refine WpM.seq ?_); have z_ex := (And.intro @wrap_id True.intro); refine WpM.regPE [] [(0, _), (5, _), (23, _), (24, _), (25, _)] (by (refine s_o [(25, _)] rfl rfl rfl z_su rfl q_full z_fp z_ss ?_; refine s_o [(45, _)] rfl rfl rfl z_su rfl q_move z_fp z_ss ?_; exact wpS_nil ⟨rfl, rfl⟩)) z_su ?_; clear z_ex)
      exact round_end (x' := j + 1) (St.Le.refl _) (Sub.le z_su) ⟨by omega, _, G1, nc', _, _, rfl, q4, rfl⟩ (by omega)
  · ((repeat refine WpM.seq ?_); refine WpM.condF (by (simp (maxSteps := 2000000) (disch := omega) [go_sem, -List.map_map, hlt])) ?_)
    (refine WpM.exit ?_; (repeat (with_reducible (first | refine thenM_exit ?_ | refine blockM_eq ?_ | refine blockM_ne (by decide) ?_))))
    obtain rfl : j = c.length := by omega
    rw [List.take_length, ← ocs_snoc] at hE
    ((repeat refine WpM.seq ?_); have z_ex := True.intro; refine WpM.regPE [] [(4, _)] (by (refine s_o [(5, _)] rfl rfl rfl z_su rfl q_move z_fp z_ss ?_; refine s_o [(46, _)] rfl rfl rfl z_su rfl q_move z_fp z_ss ?_; exact wpS_nil ⟨rfl, rfl⟩)) z_su ?_; clear z_ex)
    refine WpM.ret ?_
    exact ⟨.inr rfl, Upd.done ⟨.d (.int .i64 s.cs.length), (by (simp (maxSteps := 2000000) (disch := omega) [go_sem, -List.map_map, resV, resVs, resV1])), rfl, na, nv, nr, nd, nc', nt, nl, np, am, nx, et, el, hE⟩⟩
end Go.Proofs.Ytafeehlpmdligaa
/- solve: back. -/
namespace Go.Proofs.Ytafeehlpmdligaa
open Go.RowKit M
set_option linter.unusedSimpArgs false
set_option linter.unusedVariables false
theorem unset_take {s : Sv} {L : List Int} {j : Nat} (h : j < L.length) : (L.take (j + 1)).foldl Sv.unset s = ((L.take j).foldl Sv.unset s).unset L[j] := by
  rw [List.take_succ_eq_append_getElem h, List.foldl_append]
  rfl
theorem unset_same : ∀ (L : List Int) (s : Sv), (L.foldl Sv.unset s).tr = s.tr ∧ (L.foldl Sv.unset s).lv = s.lv ∧ (L.foldl Sv.unset s).dn = s.dn
  | [], s => ⟨rfl, rfl, rfl⟩
  | l :: L, s => by
    rw [List.foldl_cons]
    exact unset_same L (s.unset l)
theorem Sv.Wf.trlen {s : Sv} (h : s.Wf) : s.tr.length ≤ s.n := by
  have h1 : (s.tr.map Int.natAbs).length ≤ s.n := by
    have := nodup_le ((s.tr.map Int.natAbs).map fun v : Nat => (v : Int)) ((List.range s.n).map fun i : Nat => (i : Int) + 1) (by
      unfold List.Nodup
      rw [List.pairwise_map]
      exact h.nodup.imp fun a b => a (by omega)) (fun x hx => by
      obtain ⟨v, hv, rfl⟩ := List.mem_map.1 hx
      obtain ⟨y, hy, rfl⟩ := List.mem_map.1 hv
      have := h.trl y hy
      exact List.mem_map.2 ⟨y.natAbs - 1, by simp; omega, by omega⟩)
    simpa using this
  simpa using h1
set_option maxHeartbeats 8000000 in
theorem back73 (H0 : Nat → Option Blk) (sp : Nat) (s : Sv) (S : St) (h : SvS H0 sp s S.get) (hw : s.Wf) (hb : s.n ≤ 4096) (k : Nat) (hk : k < s.lv.length) :
    CallM Try.prog 73 [.ptr sp 0, .d (.int .i64 k)] S fun r S' => SvS H0 sp (s.back k) S'.get := by
  refine CallM.start (n := 67) Try.func73 rfl rfl (by simp) (by simp only [argL, Nat.reduceAdd] <;> rfl) ?_
  intro hH
  obtain ⟨H, hHe⟩ : ∃ H, H = S.get := ⟨_, rfl⟩
  obtain ⟨n0, hne⟩ : ∃ n0, n0 = S.next := ⟨_, rfl⟩
  rw [← hHe, ← hne] at hH ⊢
  rw [← hHe] at h
  obtain ⟨na, nv, nr, nd, nc, nt, nl, np, am, nx, et, el, hE⟩ := h
  have k1 := hE.box
  have k5 := hE.rt
  have k6 := hE.rl
  have g1 := hH _ _ k1
  have g5 := hH _ _ k5
  have g6 := hH _ _ k6
  obtain ⟨to, hto⟩ : ∃ to, to = s.lv.getD k 0 := ⟨_, rfl⟩
  have htl : to < s.tr.length := by
    have : s.lv.getD k 0 = s.lv[k] := by simp [hk]
    rw [hto, this]
    exact hw.lvl _ (List.getElem_mem _)
  have hgl : (s.lv.map nlit ++ el)[k]? = some (.d (.int .i64 to)) := by
    rw [List.getElem?_append_left (by simpa using hk), hto]
    simp [hk, nlit]
  ((repeat refine WpM.seq ?_); have z_ex := (And.intro @k1 (And.intro @k6 (And.intro @svBox.eq_1 (And.intro @hgl (And.intro @hk True.intro))))); refine WpM.regPE [] [(0, _), (1, _), (4, _)] (by (refine s_o [(0, _)] rfl rfl rfl z_su rfl q_move z_fp z_ss ?_; refine s_o [(7, _)] rfl rfl rfl z_su rfl q_move z_fp z_ss ?_; refine s_o [(8, _)] rfl rfl rfl z_su rfl q_fieldAddr z_fp z_ss ?_; refine s_o [(9, _)] rfl rfl rfl z_su rfl q_load z_fp z_ss ?_; refine s_o [(1, _)] rfl rfl rfl z_su rfl q_move z_fp z_ss ?_; refine s_o [(10, _), (11, _)] rfl rfl rfl z_su rfl q_full z_fp z_ss ?_; refine s_o [(12, _)] rfl rfl rfl z_su rfl q_load z_fp z_ss ?_; refine s_o [(13, _)] rfl rfl rfl z_su rfl q_move z_fp z_ss ?_; exact wpS_nil ⟨rfl, rfl⟩)) z_su ?_; clear z_ex)
  ((repeat refine WpM.seq ?_); have z_ex := (And.intro @k1 (And.intro @k5 (And.intro @svBox.eq_1 True.intro))); refine WpM.regPE [] [(0, _), (1, _), (4, _), (19, _), (20, _), (21, _)] (by (refine s_o [(0, _)] rfl rfl rfl z_su rfl q_move z_fp z_ss ?_; refine s_o [(14, _)] rfl rfl rfl z_su rfl q_move z_fp z_ss ?_; refine s_o [(15, _)] rfl rfl rfl z_su rfl q_fieldAddr z_fp z_ss ?_; refine s_o [(16, _)] rfl rfl rfl z_su rfl q_load z_fp z_ss ?_; refine s_o [(4, _)] rfl rfl rfl z_su rfl q_move z_fp z_ss ?_; refine s_o [(17, _), (18, _)] rfl rfl rfl z_su rfl q_full z_fp z_ss ?_; refine s_o [(19, _)] rfl rfl rfl z_su rfl q_full z_fp z_ss ?_; refine s_o [] rfl rfl rfl z_su rfl q_move z_fp z_ss ?_; exact wpS_nil ⟨rfl, rfl⟩)) z_su ?_; clear z_ex)
  obtain ⟨Dr, hD⟩ : ∃ Dr, Dr = s.tr.drop to := ⟨_, rfl⟩
  have hDl : Dr.length = s.tr.length - to := by rw [hD, List.length_drop]
  rw [← hDl]
  ((repeat refine WpM.seq ?_); refine WpM.block ?_)
  refine WpM.loop (fun (j : Nat) fr S => j ≤ Dr.length ∧ (∃ nn G, S = ⟨nn, [], G⟩ ∧ SvE H0 sp ((Dr.take j).foldl Sv.unset s) (ocs s.cs) G na nv nr nd nc nt nl np am nx et el) ∧ fr = frOf [(0, .ptr sp 0), (1, .d (.int .i64 k)), (4, .d (.int .i64 to)), (19, .ms nt 1 to Dr.length), (20, .d (.int .i64 Dr.length)), (21, .d (.int .i64 j))]) (fun j => Dr.length - j) 0 (St.Le.refl _) (Sub.le z_su) ⟨by omega, ⟨_, H, rfl, hE⟩, rfl⟩ ?_
  rintro j fr S' ⟨hj, ⟨nn, G, rfl, hF⟩, rfl⟩
  refine WpM.known fun hGk => ?_
  have hGk : ∀ m k, G m = some k → m < nn := hGk
  obtain ⟨u, hu⟩ : ∃ u, u = (Dr.take j).foldl Sv.unset s := ⟨_, rfl⟩
  obtain ⟨f1, f2, f3, f4, f5, f6, _, _⟩ := unset_fold (Dr.take j) s
  obtain ⟨f7, f8, f9⟩ := unset_same (Dr.take j) s
  rw [← hu] at hF f1 f2 f3 f4 f5 f6 f7 f8 f9
  have c1 := hF.box
  have c2 := hF.rv
  have c3 := hF.rr
  have c5 := hF.rt
  have d1 := hGk _ _ c1
  have d2 := hGk _ _ c2
  have d3 := hGk _ _ c3
  have d5 := hGk _ _ c5
  have o2 := hF.o2
  have o3 := hF.o3
  have o4 := hF.o4
  have o6 := hF.o6
  have v1 := hw.vlen
  have v2 := hw.rlen
  ((repeat refine WpM.seq ?_); have z_ex := True.intro; refine WpM.regPE [] [(0, _), (1, _), (4, _), (19, _), (20, _), (21, _), (22, _)] (by (refine s_o [(20, _), (21, _)] rfl rfl rfl z_su rfl q_full z_fp z_ss ?_; exact wpS_nil ⟨rfl, rfl⟩)) z_su ?_; clear z_ex)
  by_cases hjt : j < Dr.length
  · ((repeat refine WpM.seq ?_); refine WpM.condT (by (simp (maxSteps := 2000000) (disch := omega) [go_sem, -List.map_map, hjt])) ?_)
    refine WpM.skip ?_
    ((repeat refine WpM.seq ?_); refine WpM.block ?_)
    obtain ⟨l, hl⟩ : ∃ l, l = Dr[j] := ⟨_, rfl⟩
    have hmem : ∀ x ∈ Dr, x ∈ s.tr := fun x hx => List.mem_of_mem_drop (by rw [hD] at hx; exact hx)
    have hlm : l ∈ s.tr := hmem l (hl ▸ List.getElem_mem _)
    obtain ⟨l0, ln⟩ := hw.trl l hlm
    have hget : (u.tr.map lit ++ et)[to + j]? = some (.d (.int .i64 l)) := by
      rw [f7, List.getElem?_append_left (by simp; omega), hl]
      simp [hD, lit, show to + j < s.tr.length by omega]
    have habs := abs72 l (by omega)
    have hnn : l.natAbs < u.n + 1 := by omega
    have q2 := i8_get (val := u.val) (v := l.natAbs) (by omega)
    have q3 := nl_get (val := u.rea) (v := l.natAbs) (by omega)
    ((repeat refine WpM.seq ?_); have z_ex := (And.intro @c5 (And.intro @hget (And.intro @hjt True.intro))); refine WpM.regPE [] [(0, _), (1, _), (4, _), (6, _), (19, _), (20, _), (21, _)] (by (refine s_o [(19, _), (21, _)] rfl rfl rfl z_su rfl q_full z_fp z_ss ?_; refine s_o [(23, _)] rfl rfl rfl z_su rfl q_load z_fp z_ss ?_; refine s_o [(24, _)] rfl rfl rfl z_su rfl q_move z_fp z_ss ?_; exact wpS_nil ⟨rfl, rfl⟩)) z_su ?_; clear z_ex)
    ((repeat refine WpM.seq ?_); have z_ex := (And.intro @c1 (And.intro @c2 (And.intro @c3 (And.intro @svBox.eq_1 (And.intro @hnn (And.intro @q2 (And.intro @q3 True.intro))))))); refine WpM.drwPE [] [(0, _), (1, _), (4, _), (19, _), (20, _), (21, _)] mixed (slots_of (by kernel_rfl)) (by kernel_rfl) [(3, 5), (5, 9), (3, 11), (9, 11)] (unord_of (by kernel_rfl)) (by (refine d_o [(0, _)] rfl rfl rfl z_su rfl q_move z_fp z_ss rfl ?_; refine d_o [(25, _)] rfl rfl rfl z_su rfl q_move z_fp z_ss rfl ?_; refine d_o [(26, _)] rfl rfl rfl z_su rfl q_fieldAddr z_fp z_ss rfl ?_; refine d_o [(27, _)] rfl rfl rfl z_su rfl q_load z_fp z_ss rfl ?_; refine d_o [(6, _)] rfl rfl rfl z_su rfl q_move z_fp z_ss rfl ?_; refine d_pure (callOf_eq rfl rfl rfl (mlk_tmp z_lk mlk_nil)) (habs) rfl rfl z_ip rfl z_fp ?_; refine d_o [(0, _)] rfl rfl rfl z_su rfl q_move z_fp z_ss rfl ?_; refine d_o [(31, _)] rfl rfl rfl z_su rfl q_move z_fp z_ss rfl ?_; refine d_o [(32, _)] rfl rfl rfl z_su rfl q_fieldAddr z_fp z_ss rfl ?_; refine d_o [(33, _)] rfl rfl rfl z_su rfl q_load z_fp z_ss rfl ?_; refine d_o [(6, _)] rfl rfl rfl z_su rfl q_move z_fp z_ss rfl ?_; refine d_pure (callOf_eq rfl rfl rfl (mlk_tmp z_lk mlk_nil)) (habs) rfl rfl z_ip rfl z_fp ?_; refine d_o [(28, _), (30, _)] rfl rfl rfl z_su rfl q_full z_fp z_ss rfl ?_; refine d_o [(37, _)] rfl rfl rfl z_su rfl q_store z_fp z_ss rfl ?_; refine d_o [(34, _), (36, _)] rfl rfl rfl z_su rfl q_full z_fp z_ss rfl ?_; refine d_o [(38, _)] rfl rfl rfl z_su rfl q_store z_fp z_ss rfl ?_; exact d_end z_mt z_sn)) z_su ?_; clear z_ex)
    refine WpM.norm ?_
    intro nn1 G1 hnn1 hG1 hk1
    have q4 := hF.rows (G' := G1) (u.val.set l.natAbs 0) (u.rea.set l.natAbs 0) (by rw [hG1]; (simp (maxSteps := 2000000) (disch := omega) [go_sem, -List.map_map, List.map_set, i8])) (by rw [hG1]; (simp (maxSteps := 2000000) (disch := omega) [go_sem, -List.map_map, List.map_set, nlit])) (by
      intro m h1 h2
      rw [hG1]
      (simp (maxSteps := 2000000) (disch := omega) [go_sem, -List.map_map, h1, h2]))
    have hun : ({ u with val := u.val.set l.natAbs 0, rea := u.rea.set l.natAbs 0 } : Sv) = (Dr.take (j + 1)).foldl Sv.unset s := by
      rw [unset_take hjt, ← hu, hl]
      rfl
    rw [hun] at q4
    clear hG1 hk1 hnn1
    have hll : s.tr.length ≤ 4096 := by
      have := hw.trlen
      omega
    ((repeat refine WpM.seq ?_); have z_ex := (And.intro @wrap_id True.intro); refine WpM.regPE [] [(0, _), (1, _), (4, _), (19, _), (20, _), (21, _)] (by (refine s_o [(21, _)] rfl rfl rfl z_su rfl q_full z_fp z_ss ?_; refine s_o [(39, _)] rfl rfl rfl z_su rfl q_move z_fp z_ss ?_; exact wpS_nil ⟨rfl, rfl⟩)) z_su ?_; clear z_ex)
    exact round_end (x' := j + 1) (St.Le.refl _) (Sub.le z_su) ⟨by omega, ⟨_, G1, rfl, q4⟩, rfl⟩ (by omega)
  · ((repeat refine WpM.seq ?_); refine WpM.condF (by (simp (maxSteps := 2000000) (disch := omega) [go_sem, -List.map_map, hjt])) ?_)
    (refine WpM.exit ?_; (repeat (with_reducible (first | refine thenM_exit ?_ | refine blockM_eq ?_ | refine blockM_ne (by decide) ?_))))
    obtain rfl : j = Dr.length := by omega
    rw [List.take_length] at hu
    have htu : to ≤ u.tr.length := by rw [f7]; omega
    have hku : k ≤ u.lv.length := by rw [f8]; omega
    ((repeat refine WpM.seq ?_); have z_ex := (And.intro @c1 (And.intro @svBox.eq_1 (And.intro @htu (And.intro @hku True.intro)))); refine WpM.drwPE [] [(0, _), (4, _)] mixed (slots_of (by kernel_rfl)) (by kernel_rfl) [] (unord_of (by kernel_rfl)) (by (refine d_o [(0, _)] rfl rfl rfl z_su rfl q_move z_fp z_ss rfl ?_; refine d_o [(0, _)] rfl rfl rfl z_su rfl q_move z_fp z_ss rfl ?_; refine d_o [(0, _)] rfl rfl rfl z_su rfl q_move z_fp z_ss rfl ?_; refine d_o [(42, _)] rfl rfl rfl z_su rfl q_move z_fp z_ss rfl ?_; refine d_o [(43, _)] rfl rfl rfl z_su rfl q_fieldAddr z_fp z_ss rfl ?_; refine d_o [(44, _)] rfl rfl rfl z_su rfl q_load z_fp z_ss rfl ?_; refine d_o [(4, _)] rfl rfl rfl z_su rfl q_move z_fp z_ss rfl ?_; refine d_o [(45, _), (46, _)] rfl rfl rfl z_su rfl q_full z_fp z_ss rfl ?_; refine d_o [(0, _)] rfl rfl rfl z_su rfl q_move z_fp z_ss rfl ?_; refine d_o [(48, _)] rfl rfl rfl z_su rfl q_move z_fp z_ss rfl ?_; refine d_o [(49, _)] rfl rfl rfl z_su rfl q_fieldAddr z_fp z_ss rfl ?_; refine d_o [(50, _)] rfl rfl rfl z_su rfl q_load z_fp z_ss rfl ?_; refine d_o [(1, _)] rfl rfl rfl z_su rfl q_move z_fp z_ss rfl ?_; refine d_o [(51, _), (52, _)] rfl rfl rfl z_su rfl q_full z_fp z_ss rfl ?_; refine d_o [(40, _)] rfl rfl rfl z_su rfl q_move z_fp z_ss rfl ?_; refine d_o [(54, _)] rfl rfl rfl z_su rfl q_fieldAddr z_fp z_ss rfl ?_; refine d_o [(47, _), (55, _)] rfl rfl rfl z_su rfl q_store z_fp z_ss rfl ?_; refine d_o [(41, _)] rfl rfl rfl z_su rfl q_move z_fp z_ss rfl ?_; refine d_o [(56, _)] rfl rfl rfl z_su rfl q_fieldAddr z_fp z_ss rfl ?_; refine d_o [(53, _), (57, _)] rfl rfl rfl z_su rfl q_store z_fp z_ss rfl ?_; exact d_end z_mt z_sn)) z_su ?_; clear z_ex)
    ((repeat refine WpM.seq ?_); have z_ex := (And.intro @c1 (And.intro @svBox.eq_1 True.intro)); refine WpM.regPE [] [] (by (refine s_o [(0, _)] rfl rfl rfl z_su rfl q_move z_fp z_ss ?_; refine s_o [(0, _)] rfl rfl rfl z_su rfl q_move z_fp z_ss ?_; refine s_o [(59, _)] rfl rfl rfl z_su rfl q_move z_fp z_ss ?_; refine s_o [(60, _)] rfl rfl rfl z_su rfl q_fieldAddr z_fp z_ss ?_; refine s_o [(61, _)] rfl rfl rfl z_su rfl q_load z_fp z_ss ?_; refine s_o [(4, _)] rfl rfl rfl z_su rfl q_move z_fp z_ss ?_; refine s_o [(62, _), (63, _)] rfl rfl rfl z_su rfl q_full z_fp z_ss ?_; refine s_o [(58, _)] rfl rfl rfl z_su rfl q_move z_fp z_ss ?_; refine s_o [(65, _)] rfl rfl rfl z_su rfl q_fieldAddr z_fp z_ss ?_; refine s_o [(64, _), (66, _)] rfl rfl rfl z_su rfl q_store z_fp z_ss ?_; exact wpS_nil ⟨rfl, rfl⟩)) z_su ?_; clear z_ex)
    refine ⟨.inl rfl, Upd.done ⟨.tup [], (by (simp (maxSteps := 2000000) (disch := omega) [go_sem, -List.map_map, resV, resVs, resV1])), ?_⟩⟩
    have hback : s.back k = { u with tr := u.tr.take to, lv := u.lv.take k, dn := min u.dn to } := by
      unfold Sv.back
      rw [← hto]
      simp only [← hD, ← hu, f7, f8, f9]
    rw [hback]
    have hl1 : (u.tr.take to).length = to := by rw [List.length_take]; omega
    have hl2 : (u.lv.take k).length = k := by rw [List.length_take]; omega
    have hmin : (((min u.dn to : Nat)) : Int) = if to < u.dn then (to : Int) else u.dn := by
      split <;> omega
    refine ⟨na, nv, nr, nd, nc, nt, nl, np, am, nx, (u.tr.drop to).map lit ++ et, (u.lv.drop k).map nlit ++ el, ?_⟩
    have hoc : ocs s.cs = ocs u.cs := by rw [f2]
    rw [hoc] at hF
    refine hF.cut to k (min u.dn to) ?_ ?_
    · (simp (maxSteps := 2000000) (disch := omega) [go_sem, -List.map_map, svBox, hl1, hl2, hmin])
    · intro m hm
      (simp (maxSteps := 2000000) (disch := omega) [go_sem, -List.map_map, hm])
end Go.Proofs.Ytafeehlpmdligaa
/- solve: decide. -/
namespace Go.Proofs.Ytafeehlpmdligaa
open Go.RowKit M
set_option linter.unusedSimpArgs false
set_option linter.unusedVariables false
theorem free_is {s : Sv} {v : Nat} (h1 : 1 ≤ v) (h2 : v ≤ s.n) (h3 : s.val.getD v 0 = 0) (h4 : ∀ u, 1 ≤ u → u < v → s.val.getD u 0 ≠ 0) : s.free = some v := by
  unfold Sv.free
  have : (List.range s.n).find? (fun v => s.val.getD (v + 1) 0 == 0) = some (v - 1) := by
    rw [List.find?_range_eq_some]
    refine ⟨?_, by simp; omega, fun j hj => ?_⟩
    · rw [show v - 1 + 1 = v by omega, h3]; rfl
    · have := h4 (j + 1) (by omega) (by omega)
      simpa using this
  rw [this]
  simp
  omega
theorem free_is_none {s : Sv} (h : ∀ u, 1 ≤ u → u ≤ s.n → s.val.getD u 0 ≠ 0) : s.free = none := by
  unfold Sv.free
  rw [Option.map_eq_none_iff, List.find?_eq_none]
  intro x hx
  have := h (x + 1) (by omega) (by simp at hx; omega)
  simpa using this
set_option maxHeartbeats 8000000 in
theorem decide58 (H0 : Nat → Option Blk) (sp : Nat) (s : Sv) (S : St) (h : SvS H0 sp s S.get) (hw : s.Wf) (hb : s.n ≤ 4096) :
    CallM Try.prog 58 [.ptr sp 0] S fun r S' => r = .d (.bool s.decide.isSome) ∧ SvS H0 sp (s.decide.getD s) S'.get := by
  refine CallM.start (n := 45) Try.func58 rfl rfl (by simp) (by simp only [argL, Nat.reduceAdd] <;> rfl) ?_
  intro hH
  obtain ⟨H, hHe⟩ : ∃ H, H = S.get := ⟨_, rfl⟩
  obtain ⟨n0, hne⟩ : ∃ n0, n0 = S.next := ⟨_, rfl⟩
  rw [← hHe, ← hne] at hH ⊢
  rw [← hHe] at h
  have hSv := h
  obtain ⟨na, nv, nr, nd, nc, nt, nl, np, am, nx, et, el, hE⟩ := h
  have k1 := hE.box
  have k2 := hE.rv
  have k6 := hE.rl
  have g1 := hH _ _ k1
  have g2 := hH _ _ k2
  have g6 := hH _ _ k6
  have a7 := hE.o7
  have v1 := hw.vlen
  have htl := hw.tr_len
  have hll : s.lv.length ≤ 4096 := by
    have h1 : s.lv.Nodup := hw.lvs.imp fun hab => Nat.ne_of_lt hab
    have := nodup_le_n (s.tr.length) (s.lv.map (· + 1)) (by
      unfold List.Nodup
      rw [List.pairwise_map]
      exact h1.imp fun a b => a (by omega)) (fun v hv => by
      obtain ⟨u, hu, rfl⟩ := List.mem_map.1 hv
      have := hw.lvl u hu
      omega)
    simp at this
    omega
  ((repeat refine WpM.seq ?_); have z_ex := True.intro; refine WpM.regPE [] [(0, _)] (by (refine s_o [] rfl rfl rfl z_su rfl q_move z_fp z_ss ?_; exact wpS_nil ⟨rfl, rfl⟩)) z_su ?_; clear z_ex)
  ((repeat refine WpM.seq ?_); have z_ex := True.intro; refine WpM.regPE [] [(0, _), (3, _)] (by (refine s_o [] rfl rfl rfl z_su rfl q_move z_fp z_ss ?_; exact wpS_nil ⟨rfl, rfl⟩)) z_su ?_; clear z_ex)
  ((repeat refine WpM.seq ?_); refine WpM.block ?_)
  refine WpM.loop (fun (v : Nat) fr S => 1 ≤ v ∧ v ≤ s.n + 1 ∧ (∀ u, 1 ≤ u → u < v → s.val.getD u 0 ≠ 0) ∧ (∃ nn, n0 ≤ nn ∧ S = ⟨nn, [], H⟩) ∧ fr = frOf [(0, .ptr sp 0), (3, .d (.int .i64 v))]) (fun v => s.n + 1 - v) 1 (St.Le.refl _) (Sub.le z_su) ⟨by omega, by omega, fun u h1 h2 => by omega, ⟨_, by omega, rfl⟩, rfl⟩ ?_
  rintro v fr S' ⟨hv1, hv2, hall, ⟨nn, hnn, rfl⟩, rfl⟩
  by_cases hvn : v ≤ s.n
  · have hget := i8_get (val := s.val) (v := v) (by omega)
    have hvn1 : v < s.n + 1 := by omega
    obtain ⟨x, hx⟩ : ∃ x, x = s.val.getD v 0 := ⟨_, rfl⟩
    rw [← hx] at hget
    by_cases hx0 : x = 0
    · have hfree : s.free = some v := free_is hv1 hvn (by rw [← hx, hx0]) hall
      have hdec : s.decide = some (({ s with lv := s.lv ++ [s.tr.length] } : Sv).put (v : Int) 0) := by unfold Sv.decide; rw [hfree]; rfl
      ((repeat refine WpM.seq ?_); have z_ex := (And.intro @k1 (And.intro @k2 (And.intro @svBox.eq_1 (And.intro @hvn (And.intro @hvn1 (And.intro @hget (And.intro @hx0 True.intro))))))); refine WpM.regPE [] [(0, _), (3, _), (19, _)] (by (refine s_o [(3, _)] rfl rfl rfl z_su rfl q_move z_fp z_ss ?_; refine s_o [(0, _)] rfl rfl rfl z_su rfl q_move z_fp z_ss ?_; refine s_o [(5, _)] rfl rfl rfl z_su rfl q_move z_fp z_ss ?_; refine s_o [(6, _)] rfl rfl rfl z_su rfl q_fieldAddr z_fp z_ss ?_; refine s_o [(7, _)] rfl rfl rfl z_su rfl q_load z_fp z_ss ?_; refine s_o [(4, _), (8, _)] rfl rfl rfl z_su rfl q_full z_fp z_ss ?_; refine s_o [(9, _)] rfl rfl rfl z_su rfl q_move z_fp z_ss ?_; refine s_wit ?_; intro z_g; (first | refine s_skip rfl z_g z_fp ?_ | (refine s_o [(0, _)] rfl z_g rfl z_su rfl q_move z_fp z_ss ?_)); clear z_g; refine s_wit ?_; intro z_g; (first | refine s_skip rfl z_g z_fp ?_ | (refine s_o [(11, _)] rfl z_g rfl z_su rfl q_move z_fp z_ss ?_)); clear z_g; refine s_wit ?_; intro z_g; (first | refine s_skip rfl z_g z_fp ?_ | (refine s_o [(12, _)] rfl z_g rfl z_su rfl q_fieldAddr z_fp z_ss ?_)); clear z_g; refine s_wit ?_; intro z_g; (first | refine s_skip rfl z_g z_fp ?_ | (refine s_o [(13, _)] rfl z_g rfl z_su rfl q_load z_fp z_ss ?_)); clear z_g; refine s_wit ?_; intro z_g; (first | refine s_skip rfl z_g z_fp ?_ | (refine s_o [(3, _)] rfl z_g rfl z_su rfl q_move z_fp z_ss ?_)); clear z_g; refine s_wit ?_; intro z_g; (first | refine s_skip rfl z_g z_fp ?_ | (refine s_o [(14, _), (15, _)] rfl z_g rfl z_su rfl q_full z_fp z_ss ?_)); clear z_g; refine s_wit ?_; intro z_g; (first | refine s_skip rfl z_g z_fp ?_ | (refine s_o [(16, _)] rfl z_g rfl z_su rfl q_load z_fp z_ss ?_)); clear z_g; refine s_wit ?_; intro z_g; (first | refine s_skip rfl z_g z_fp ?_ | (refine s_o [(17, _)] rfl z_g rfl z_su rfl q_full z_fp z_ss ?_)); clear z_g; refine s_o [(10, _), (18, _)] rfl rfl rfl z_su rfl q_move z_fp z_ss ?_; exact wpS_nil ⟨rfl, rfl⟩)) z_su ?_; clear z_ex)
      ((repeat refine WpM.seq ?_); refine WpM.condF (by (simp (maxSteps := 2000000) (disch := omega) [go_sem, -List.map_map])) ?_)
      (refine WpM.exit ?_; (repeat (with_reducible (first | refine thenM_exit ?_ | refine blockM_eq ?_ | refine blockM_ne (by decide) ?_))))
      have hvn' : ¬ s.n < v := by omega
      ((repeat refine WpM.seq ?_); have z_ex := (And.intro @k1 (And.intro @svBox.eq_1 (And.intro @hvn' True.intro))); refine WpM.regPE [] [(0, _), (3, _), (27, _)] (by (refine s_o [(3, _)] rfl rfl rfl z_su rfl q_move z_fp z_ss ?_; refine s_o [(0, _)] rfl rfl rfl z_su rfl q_move z_fp z_ss ?_; refine s_o [(23, _)] rfl rfl rfl z_su rfl q_move z_fp z_ss ?_; refine s_o [(24, _)] rfl rfl rfl z_su rfl q_fieldAddr z_fp z_ss ?_; refine s_o [(25, _)] rfl rfl rfl z_su rfl q_load z_fp z_ss ?_; refine s_o [(22, _), (26, _)] rfl rfl rfl z_su rfl q_full z_fp z_ss ?_; exact wpS_nil ⟨rfl, rfl⟩)) z_su ?_; clear z_ex)
      ((repeat refine WpM.seq ?_); refine WpM.condF (by (simp (maxSteps := 2000000) (disch := omega) [go_sem, -List.map_map])) ?_)
      refine WpM.skip ?_
      have htk : (s.lv.map nlit ++ el).take s.lv.length = s.lv.map nlit := by rw [List.take_append_of_le_length (by simp), List.take_of_length_le (by simp)]
      have hsl : sp ≠ nl := by omega
      ((repeat refine WpM.seq ?_); have z_ex := (And.intro @k1 (And.intro @k6 (And.intro @svBox.eq_1 (And.intro @htk True.intro)))); refine WpM.drwPE [] [(0, _), (3, _)] mixed (slots_of (by kernel_rfl)) (by kernel_rfl) [(4, 10)] (unord_of (by kernel_rfl)) (by (refine d_o [(0, _)] rfl rfl rfl z_su rfl q_move z_fp z_ss rfl ?_; refine d_o [(0, _)] rfl rfl rfl z_su rfl q_move z_fp z_ss rfl ?_; refine d_o [(29, _)] rfl rfl rfl z_su rfl q_move z_fp z_ss rfl ?_; refine d_o [(30, _)] rfl rfl rfl z_su rfl q_fieldAddr z_fp z_ss rfl ?_; refine d_o [(31, _)] rfl rfl rfl z_su rfl q_load z_fp z_ss rfl ?_; refine d_o [(0, _)] rfl rfl rfl z_su rfl q_move z_fp z_ss rfl ?_; refine d_o [(33, _)] rfl rfl rfl z_su rfl q_move z_fp z_ss rfl ?_; refine d_o [(34, _)] rfl rfl rfl z_su rfl q_fieldAddr z_fp z_ss rfl ?_; refine d_o [(35, _)] rfl rfl rfl z_su rfl q_load z_fp z_ss rfl ?_; refine d_o [(36, _)] rfl rfl rfl z_su rfl q_full z_fp z_ss rfl ?_; refine d_o [(37, _)] rfl rfl rfl z_su rfl q_full z_fp z_ss rfl ?_; refine d_o [(32, _), (38, _)] rfl rfl rfl z_su rfl q_full z_fp z_ss rfl ?_; refine d_o [(28, _)] rfl rfl rfl z_su rfl q_move z_fp z_ss rfl ?_; refine d_o [(40, _)] rfl rfl rfl z_su rfl q_fieldAddr z_fp z_ss rfl ?_; refine d_o [(39, _), (41, _)] rfl rfl rfl z_su rfl q_store z_fp z_ss rfl ?_; exact d_end z_mt z_sn)) z_su ?_; clear z_ex)
      refine WpM.norm ?_
      intro nn1 G1 hnn1 hG1 hk1
      have hE1 : SvE H0 sp ({ s with lv := s.lv ++ [s.tr.length] } : Sv) (ocs s.cs) G1 na nv nr nd nc nt (nn + 33) np am nx et [] := by
        refine hE.level s.tr.length (nn + 33) (fun m k hk => by have := hH m k hk; omega) ?_ ?_ ?_
        · rw [hG1]; (simp (maxSteps := 2000000) (disch := omega) [go_sem, -List.map_map, svBox])
        · rw [hG1]; (simp (maxSteps := 2000000) (disch := omega) [go_sem, -List.map_map, nlit])
        · intro m k hk m1 m2
          have := hH m k hk
          rw [hG1]
          (simp (maxSteps := 2000000) (disch := omega) [go_sem, -List.map_map, hk, m1, m2])
      clear hG1 hk1 hnn1
      have hp := fun n => put74 H0 sp ({ s with lv := s.lv ++ [s.tr.length] } : Sv) ⟨n, [], G1⟩ na nv nr nd nc (nn + 33) np am nx [] ⟨nt, et, hE1⟩ ⟨hw.vlen, hw.rlen, hw.dlen⟩ (v : Int) (by show (v : Int).natAbs ≤ s.n; omega) hb 0 (by show s.tr.length ≤ _; omega)
      ((repeat refine WpM.seq ?_); have z_ex := True.intro; refine WpM.regP [] ?_; intro K hK; refine s_o [(0, _)] rfl rfl rfl z_su rfl q_move z_fp z_ss ?_; refine s_o [(3, _)] rfl rfl rfl z_su rfl q_move z_fp z_ss ?_; refine s_call (callOf_eq rfl rfl rfl (mlk_tmp z_lk (mlk_tmp z_lk (mlk_const rfl mlk_nil)))) (hp _) rfl rfl z_ip ?_; rintro _ z_S ⟨rfl, hS⟩; refine s_put z_fp ?_; refine s_endE [] hK z_su ?_; clear hK K; clear z_ex)
      refine WpM.norm ?_
      intro nn2 G2 hnn2 hG2 hk2
      have hG2 : G2 = z_S.get := hG2
      rw [← hG2] at hS
      clear hG2 hk2 hnn2
      ((repeat refine WpM.seq ?_); have z_ex := True.intro; refine WpM.regPE [] [(2, _)] (by (refine s_o [] rfl rfl rfl z_su rfl q_move z_fp z_ss ?_; exact wpS_nil ⟨rfl, rfl⟩)) z_su ?_; clear z_ex)
      refine WpM.ret ?_
      exact ⟨.inr rfl, Upd.done ⟨.d (.bool true), (by (simp (maxSteps := 2000000) (disch := omega) [go_sem, -List.map_map, resV, resVs, resV1])), by rw [hdec]; rfl, by rw [hdec]; exact hS.s⟩⟩
    · ((repeat refine WpM.seq ?_); have z_ex := (And.intro @k1 (And.intro @k2 (And.intro @svBox.eq_1 (And.intro @hvn (And.intro @hvn1 (And.intro @hget (And.intro @hx0 True.intro))))))); refine WpM.regPE [] [(0, _), (3, _), (19, _)] (by (refine s_o [(3, _)] rfl rfl rfl z_su rfl q_move z_fp z_ss ?_; refine s_o [(0, _)] rfl rfl rfl z_su rfl q_move z_fp z_ss ?_; refine s_o [(5, _)] rfl rfl rfl z_su rfl q_move z_fp z_ss ?_; refine s_o [(6, _)] rfl rfl rfl z_su rfl q_fieldAddr z_fp z_ss ?_; refine s_o [(7, _)] rfl rfl rfl z_su rfl q_load z_fp z_ss ?_; refine s_o [(4, _), (8, _)] rfl rfl rfl z_su rfl q_full z_fp z_ss ?_; refine s_o [(9, _)] rfl rfl rfl z_su rfl q_move z_fp z_ss ?_; refine s_wit ?_; intro z_g; (first | refine s_skip rfl z_g z_fp ?_ | (refine s_o [(0, _)] rfl z_g rfl z_su rfl q_move z_fp z_ss ?_)); clear z_g; refine s_wit ?_; intro z_g; (first | refine s_skip rfl z_g z_fp ?_ | (refine s_o [(11, _)] rfl z_g rfl z_su rfl q_move z_fp z_ss ?_)); clear z_g; refine s_wit ?_; intro z_g; (first | refine s_skip rfl z_g z_fp ?_ | (refine s_o [(12, _)] rfl z_g rfl z_su rfl q_fieldAddr z_fp z_ss ?_)); clear z_g; refine s_wit ?_; intro z_g; (first | refine s_skip rfl z_g z_fp ?_ | (refine s_o [(13, _)] rfl z_g rfl z_su rfl q_load z_fp z_ss ?_)); clear z_g; refine s_wit ?_; intro z_g; (first | refine s_skip rfl z_g z_fp ?_ | (refine s_o [(3, _)] rfl z_g rfl z_su rfl q_move z_fp z_ss ?_)); clear z_g; refine s_wit ?_; intro z_g; (first | refine s_skip rfl z_g z_fp ?_ | (refine s_o [(14, _), (15, _)] rfl z_g rfl z_su rfl q_full z_fp z_ss ?_)); clear z_g; refine s_wit ?_; intro z_g; (first | refine s_skip rfl z_g z_fp ?_ | (refine s_o [(16, _)] rfl z_g rfl z_su rfl q_load z_fp z_ss ?_)); clear z_g; refine s_wit ?_; intro z_g; (first | refine s_skip rfl z_g z_fp ?_ | (refine s_o [(17, _)] rfl z_g rfl z_su rfl q_full z_fp z_ss ?_)); clear z_g; refine s_o [(10, _), (18, _)] rfl rfl rfl z_su rfl q_move z_fp z_ss ?_; exact wpS_nil ⟨rfl, rfl⟩)) z_su ?_; clear z_ex)
      ((repeat refine WpM.seq ?_); refine WpM.condT (by (simp (maxSteps := 2000000) (disch := omega) [go_sem, -List.map_map, hx0])) ?_)
      refine WpM.skip ?_
      ((repeat refine WpM.seq ?_); refine WpM.block ?_)
      ((repeat refine WpM.seq ?_); have z_ex := (And.intro @wrap_id True.intro); refine WpM.regPE [] [(0, _), (3, _)] (by (refine s_o [(3, _)] rfl rfl rfl z_su rfl q_move z_fp z_ss ?_; refine s_o [(20, _)] rfl rfl rfl z_su rfl q_full z_fp z_ss ?_; refine s_o [(21, _)] rfl rfl rfl z_su rfl q_move z_fp z_ss ?_; exact wpS_nil ⟨rfl, rfl⟩)) z_su ?_; clear z_ex)
      refine blockM_norm ?_
      exact round_end (x' := v + 1) (St.Le.refl _) (Sub.le z_su) ⟨by omega, by omega, fun u h1 h2 => by
        rcases Nat.lt_or_ge u v with h3 | h3
        · exact hall u h1 h3
        · obtain rfl : u = v := by omega
          rw [← hx]; exact hx0, ⟨_, by omega, rfl⟩, rfl⟩ (by omega)
  · have hdec : s.decide = none := by
      unfold Sv.decide
      rw [free_is_none fun u h1 h2 => hall u h1 (by omega)]
      rfl
    have hvn' : s.n < v := by omega
    ((repeat refine WpM.seq ?_); have z_ex := (And.intro @k1 (And.intro @k2 (And.intro @svBox.eq_1 (And.intro @hvn True.intro)))); refine WpM.regPE [] [(0, _), (3, _), (19, _)] (by (refine s_o [(3, _)] rfl rfl rfl z_su rfl q_move z_fp z_ss ?_; refine s_o [(0, _)] rfl rfl rfl z_su rfl q_move z_fp z_ss ?_; refine s_o [(5, _)] rfl rfl rfl z_su rfl q_move z_fp z_ss ?_; refine s_o [(6, _)] rfl rfl rfl z_su rfl q_fieldAddr z_fp z_ss ?_; refine s_o [(7, _)] rfl rfl rfl z_su rfl q_load z_fp z_ss ?_; refine s_o [(4, _), (8, _)] rfl rfl rfl z_su rfl q_full z_fp z_ss ?_; refine s_o [(9, _)] rfl rfl rfl z_su rfl q_move z_fp z_ss ?_; refine s_wit ?_; intro z_g; (first | refine s_skip rfl z_g z_fp ?_ | (refine s_o [(0, _)] rfl z_g rfl z_su rfl q_move z_fp z_ss ?_)); clear z_g; refine s_wit ?_; intro z_g; (first | refine s_skip rfl z_g z_fp ?_ | (refine s_o [(11, _)] rfl z_g rfl z_su rfl q_move z_fp z_ss ?_)); clear z_g; refine s_wit ?_; intro z_g; (first | refine s_skip rfl z_g z_fp ?_ | (refine s_o [(12, _)] rfl z_g rfl z_su rfl q_fieldAddr z_fp z_ss ?_)); clear z_g; refine s_wit ?_; intro z_g; (first | refine s_skip rfl z_g z_fp ?_ | (refine s_o [(13, _)] rfl z_g rfl z_su rfl q_load z_fp z_ss ?_)); clear z_g; refine s_wit ?_; intro z_g; (first | refine s_skip rfl z_g z_fp ?_ | (refine s_o [(3, _)] rfl z_g rfl z_su rfl q_move z_fp z_ss ?_)); clear z_g; refine s_wit ?_; intro z_g; (first | refine s_skip rfl z_g z_fp ?_ | (refine s_o [(14, _), (15, _)] rfl z_g rfl z_su rfl q_full z_fp z_ss ?_)); clear z_g; refine s_wit ?_; intro z_g; (first | refine s_skip rfl z_g z_fp ?_ | (refine s_o [(16, _)] rfl z_g rfl z_su rfl q_load z_fp z_ss ?_)); clear z_g; refine s_wit ?_; intro z_g; (first | refine s_skip rfl z_g z_fp ?_ | (refine s_o [(17, _)] rfl z_g rfl z_su rfl q_full z_fp z_ss ?_)); clear z_g; refine s_o [(10, _), (18, _)] rfl rfl rfl z_su rfl q_move z_fp z_ss ?_; exact wpS_nil ⟨rfl, rfl⟩)) z_su ?_; clear z_ex)
    ((repeat refine WpM.seq ?_); refine WpM.condF (by (simp (maxSteps := 2000000) (disch := omega) [go_sem, -List.map_map])) ?_)
    (refine WpM.exit ?_; (repeat (with_reducible (first | refine thenM_exit ?_ | refine blockM_eq ?_ | refine blockM_ne (by decide) ?_))))
    ((repeat refine WpM.seq ?_); have z_ex := (And.intro @k1 (And.intro @svBox.eq_1 (And.intro @hvn' True.intro))); refine WpM.regPE [] [(0, _), (3, _), (27, _)] (by (refine s_o [(3, _)] rfl rfl rfl z_su rfl q_move z_fp z_ss ?_; refine s_o [(0, _)] rfl rfl rfl z_su rfl q_move z_fp z_ss ?_; refine s_o [(23, _)] rfl rfl rfl z_su rfl q_move z_fp z_ss ?_; refine s_o [(24, _)] rfl rfl rfl z_su rfl q_fieldAddr z_fp z_ss ?_; refine s_o [(25, _)] rfl rfl rfl z_su rfl q_load z_fp z_ss ?_; refine s_o [(22, _), (26, _)] rfl rfl rfl z_su rfl q_full z_fp z_ss ?_; exact wpS_nil ⟨rfl, rfl⟩)) z_su ?_; clear z_ex)
    ((repeat refine WpM.seq ?_); refine WpM.condT (by (simp (maxSteps := 2000000) (disch := omega) [go_sem, -List.map_map])) ?_)
    ((repeat refine WpM.seq ?_); have z_ex := True.intro; refine WpM.regPE [] [(2, _)] (by (refine s_o [] rfl rfl rfl z_su rfl q_move z_fp z_ss ?_; exact wpS_nil ⟨rfl, rfl⟩)) z_su ?_; clear z_ex)
    refine WpM.ret ?_
    exact ⟨.inr rfl, Upd.done ⟨.d (.bool false), (by (simp (maxSteps := 2000000) (disch := omega) [go_sem, -List.map_map, resV, resVs, resV1])), by rw [hdec]; rfl, by rw [hdec]; exact hSv⟩⟩
end Go.Proofs.Ytafeehlpmdligaa
