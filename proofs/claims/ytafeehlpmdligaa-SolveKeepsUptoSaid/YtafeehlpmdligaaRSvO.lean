/- solve: learn. -/
import Derived.Test.YtafeehlpmdligaaRMd
import Derived.Test.YtafeehlpmdligaaROp
import Derived.Test.YtafeehlpmdligaaRSvN
import Derived.Test.YtafeehlpmdligaaRVc
namespace Go.Proofs.Ytafeehlpmdligaa
open Go.RowKit M
set_option linter.unusedSimpArgs false
set_option linter.unusedVariables false
set_option maxHeartbeats 8000000 in
theorem learn56 (H0 : Nat → Option Blk) (sp : Nat) (s : Sv) (S : St) (h : SvS H0 sp s S.get) (hw : s.Wf) (hb : Small s) (m : Nat) (hc : Conflict s m) (hlg : s.longest ≤ 1000000) :
    CallM Try.prog 56 [.ptr sp 0, .d (.int .i64 m)] S fun r S' => r = .d (.bool (s.learn m).1) ∧ SvS H0 sp (s.learn m).2 S'.get := by
  refine CallM.start (n := 48) Try.func56 rfl rfl (by simp) (by simp only [argL, Nat.reduceAdd] <;> rfl) ?_
  intro hH
  obtain ⟨H, hHe⟩ : ∃ H, H = S.get := ⟨_, rfl⟩
  obtain ⟨n0, hne⟩ : ∃ n0, n0 = S.next := ⟨_, rfl⟩
  rw [← hHe, ← hne] at hH ⊢
  rw [← hHe] at h
  have hbl := fun n => blame71 sortsD H0 sp s ⟨n, [], H⟩ h hw hb m hc hlg
  obtain ⟨na, nv, nr, nd, nc, nt, nl, np, am, nx, et, el, hE⟩ := h
  obtain ⟨seen, hB⟩ := blamed hw hc
  have hbn := hB.len hw
  have hblit : ∀ l ∈ s.blame m, l ≠ 0 ∧ l.natAbs ≤ s.n := fun l hl => by
    obtain ⟨p, hp, _, rfl⟩ := hB.dec l hl
    have := hw.trl _ (List.getElem_mem hp)
    rw [Int.natAbs_neg]
    omega
  obtain ⟨c, hce⟩ : ∃ c, c = s.blame m := ⟨_, rfl⟩
  rw [← hce] at hbl hbn hblit hB
  have k1 := hE.box
  have k2 := hE.rp
  have g1 := hH _ _ k1
  have g2 := hH _ _ k2
  have o8 := hE.o8
  have hpf := hb.pf
  have hsn := hb.n
  have hpu : (s.pf.map fun c => V.d (D.sl (c.map (D.int .i64)))).take s.pf.length = s.pf.map fun c => V.d (D.sl (c.map (D.int .i64))) := List.take_of_length_le (by simp)
  have hsp : sp ≠ np := by omega
  have k2u : H np = some (.row 1 (s.pf.map fun c => V.d (D.sl (c.map (D.int .i64))))) := k2
  ((repeat refine WpM.seq ?_); have z_ex := True.intro; refine WpM.regPE [] [(0, _), (1, _)] (by (refine s_o [] rfl rfl rfl z_su rfl q_move z_fp z_ss ?_; exact wpS_nil ⟨rfl, rfl⟩)) z_su ?_; clear z_ex)
  ((repeat refine WpM.seq ?_); have z_ex := True.intro; refine WpM.regPE [] [(0, _), (5, _)] (by (refine s_o [(0, _)] rfl rfl rfl z_su rfl q_move z_fp z_ss ?_; refine s_o [(1, _)] rfl rfl rfl z_su rfl q_move z_fp z_ss ?_; refine s_at (callOf_eq rfl rfl rfl (mlk_tmp z_lk (mlk_tmp z_lk mlk_nil))) (hbl _) rfl rfl z_ip z_fp ?_; refine s_o [(9, _)] rfl rfl rfl z_su rfl q_move z_fp z_ss ?_; exact wpS_nil ⟨rfl, rfl⟩)) z_su ?_; clear z_ex)
  ((repeat refine WpM.seq ?_); have z_ex := (And.intro @k1 (And.intro @k2u (And.intro @svBox.eq_1 (And.intro @hpu (And.intro @ints.eq_1 True.intro))))); refine WpM.regPE [] [(0, _), (5, _)] (by (refine s_o [(0, _)] rfl rfl rfl z_su rfl q_move z_fp z_ss ?_; refine s_o [(0, _)] rfl rfl rfl z_su rfl q_move z_fp z_ss ?_; refine s_o [(11, _)] rfl rfl rfl z_su rfl q_move z_fp z_ss ?_; refine s_o [(12, _)] rfl rfl rfl z_su rfl q_fieldAddr z_fp z_ss ?_; refine s_o [(13, _)] rfl rfl rfl z_su rfl q_load z_fp z_ss ?_; refine s_o [(5, _)] rfl rfl rfl z_su rfl q_move z_fp z_ss ?_; refine s_o [(15, _)] rfl rfl rfl z_su rfl q_full z_fp z_ss ?_; refine s_o [(14, _), (16, _)] rfl rfl rfl z_su rfl q_full z_fp z_ss ?_; refine s_o [(10, _)] rfl rfl rfl z_su rfl q_move z_fp z_ss ?_; refine s_o [(18, _)] rfl rfl rfl z_su rfl q_fieldAddr z_fp z_ss ?_; refine s_o [(17, _), (19, _)] rfl rfl rfl z_su rfl q_store z_fp z_ss ?_; exact wpS_nil ⟨rfl, rfl⟩)) z_su ?_; clear z_ex)
  refine WpM.norm ?_
  intro nn G hnn hG hk
  have hE1 : SvE H0 sp ({ s with pf := s.pf ++ [c] } : Sv) (ocs s.cs) G na nv nr nd nc nt nl (n0 + 11) am nx et el := by
    refine hE.proof c (n0 + 11) (fun m k hk => by have := hH m k hk; omega) ?_ ?_ ?_
    · rw [hG]; (simp (maxSteps := 2000000) (disch := omega) [go_sem, -List.map_map, svBox])
    · rw [hG]; (simp (maxSteps := 2000000) (disch := omega) [go_sem, -List.map_map, ints])
    · intro m k hk m1 m2
      have := hH m k hk
      rw [hG]
      (simp (maxSteps := 2000000) (disch := omega) [go_sem, -List.map_map, hk, m1, m2])
  have hgk : ∀ m k, G m = some k → m < nn := hk
  clear hG hk hnn
  obtain ⟨s1, hs1⟩ : ∃ s1, s1 = ({ s with pf := s.pf ++ [c] } : Sv) := ⟨_, rfl⟩
  have w1 : s1.Wf := by rw [hs1]; exact ⟨hw.vlen, hw.rlen, hw.dlen, hw.lit, hw.trl, hw.nodup, hw.tval, hw.tri, hw.zero, hw.lvs, hw.lvl, hw.dnl, hw.dpt, hw.dec, hw.why⟩
  have n1 : s1.n = s.n := by rw [hs1]
  have hS1 : SvS H0 sp s1 G := by rw [hs1]; exact ⟨na, nv, nr, nd, nc, nt, nl, _, am, nx, et, el, hE1⟩
  have j1 : G sp = some (svBox s1 na nv nr nd nc nt nl (n0 + 11)) := by rw [hs1]; exact hE1.box
  have j4 : G nd = some (.row 1 (s.dep.map nlit)) := hE1.rd
  have i1 := hgk _ _ j1
  have i4 := hgk _ _ j4
  have hcu : V.d (D.sl (c.map (D.int .i64))) = .d (ints c) := rfl
  cases hcc : c with
  | nil =>
    have hl0 : (c.length : Int) = 0 := by rw [hcc]; rfl
    have hlearn : s.learn m = (false, s1) := by rw [learn_nil (by rw [← hce, hcc]), hs1, hcc]
    rw [hcc] at hcu
    ((repeat refine WpM.seq ?_); have z_ex := (And.intro @ints.eq_1 True.intro); refine WpM.regPE [] [(0, _), (5, _), (22, _)] (by (refine s_o [(5, _)] rfl rfl rfl z_su rfl q_move z_fp z_ss ?_; refine s_o [(20, _)] rfl rfl rfl z_su rfl q_full z_fp z_ss ?_; refine s_o [(21, _)] rfl rfl rfl z_su rfl q_full z_fp z_ss ?_; exact wpS_nil ⟨rfl, rfl⟩)) z_su ?_; clear z_ex)
    ((repeat refine WpM.seq ?_); refine WpM.condT (by (simp (maxSteps := 2000000) (disch := omega) [go_sem, -List.map_map])) ?_)
    ((repeat refine WpM.seq ?_); have z_ex := True.intro; refine WpM.regPE [] [(4, _)] (by (refine s_o [] rfl rfl rfl z_su rfl q_move z_fp z_ss ?_; exact wpS_nil ⟨rfl, rfl⟩)) z_su ?_; clear z_ex)
    refine WpM.ret ?_
    exact ⟨.inr rfl, Upd.done ⟨.d (.bool false), (by (simp (maxSteps := 2000000) (disch := omega) [go_sem, -List.map_map, resV, resVs, resV1])), by rw [hlearn], by rw [hlearn]; exact hS1⟩⟩
  | cons x r =>
    have hbx : s.blame m = x :: r := by rw [← hce, hcc]
    rw [hcc] at hB hblit hbn hs1
    have hL := learnt hw hB
    have hlearn := learn_eq hbx
    obtain ⟨k, hk⟩ : ∃ k, k = s.level r := ⟨_, rfl⟩
    rw [← hk] at hL hlearn
    rw [← hs1] at hlearn
    have hr0 : ¬ (r.length : Int) + 1 = 0 := by omega
    ((repeat refine WpM.seq ?_); have z_ex := (And.intro @ints.eq_1 (And.intro @hr0 True.intro)); refine WpM.regPE [] [(0, _), (5, _), (22, _)] (by (refine s_o [(5, _)] rfl rfl rfl z_su rfl q_move z_fp z_ss ?_; refine s_o [(20, _)] rfl rfl rfl z_su rfl q_full z_fp z_ss ?_; refine s_o [(21, _)] rfl rfl rfl z_su rfl q_full z_fp z_ss ?_; exact wpS_nil ⟨rfl, rfl⟩)) z_su ?_; clear z_ex)
    ((repeat refine WpM.seq ?_); refine WpM.condF (by (simp (maxSteps := 2000000) (disch := omega) [go_sem, -List.map_map, hr0])) ?_)
    refine WpM.skip ?_
    ((repeat refine WpM.seq ?_); have z_ex := True.intro; refine WpM.regPE [] [(0, _), (5, _), (6, _)] (by (refine s_o [] rfl rfl rfl z_su rfl q_move z_fp z_ss ?_; exact wpS_nil ⟨rfl, rfl⟩)) z_su ?_; clear z_ex)
    ((repeat refine WpM.seq ?_); have z_ex := (And.intro @ints.eq_1 True.intro); refine WpM.regPE [] [(0, _), (5, _), (6, _), (25, _)] (by (refine s_o [(5, _)] rfl rfl rfl z_su rfl q_move z_fp z_ss ?_; refine s_o [(23, _)] rfl rfl rfl z_su rfl q_full z_fp z_ss ?_; refine s_o [(24, _)] rfl rfl rfl z_su rfl q_full z_fp z_ss ?_; exact wpS_nil ⟨rfl, rfl⟩)) z_su ?_; clear z_ex)
    (repeat refine WpM.seq ?_)
    refine WpM.meet (frOf [(0, .ptr sp 0), (5, .d (ints (x :: r))), (6, .d (.int .i64 k))]) ⟨nn + 40, [], G⟩ ?_ ?_
    · cases hr : r with
      | nil =>
        have hk0 : k = 0 := by rw [hk, hr]; rfl
        rw [hk0]
        ((repeat refine WpM.seq ?_); refine WpM.condF (by (simp (maxSteps := 2000000) (disch := omega) [go_sem, -List.map_map])) ?_)
        refine WpM.skip ?_
        exact ⟨rfl, Sub.le z_su, by show _ ≤ nn + 40; simp, fun m k h => h⟩
      | cons y r' =>
        have hk0 : k = s.dep.getD y.natAbs 0 := by rw [hk, hr]; rfl
        have hy := hblit y (by rw [hr]; simp)
        have habs := abs72 y (by omega)
        have hdl := hw.dlen
        have q4 := nl_get (val := s.dep) (v := y.natAbs) (by omega)
        have hyn : y.natAbs < s1.n + 1 := by omega
        rw [← hk0] at q4
        have hlen1 : (1 : Int) < (r'.length : Int) + 1 + 1 := by omega
        ((repeat refine WpM.seq ?_); refine WpM.condT (by (simp (maxSteps := 2000000) (disch := omega) [go_sem, -List.map_map, hlen1])) ?_)
        ((repeat refine WpM.seq ?_); have z_ex := (And.intro @j1 (And.intro @j4 (And.intro @svBox.eq_1 (And.intro @q4 (And.intro @hyn (And.intro @ints.eq_1 True.intro)))))); refine WpM.drwPE [] [(0, _), (5, _), (6, _)] mixed (slots_of (by kernel_rfl)) (by kernel_rfl) [(3, 7)] (unord_of (by kernel_rfl)) (by (refine d_o [(0, _)] rfl rfl rfl z_su rfl q_move z_fp z_ss rfl ?_; refine d_o [(26, _)] rfl rfl rfl z_su rfl q_move z_fp z_ss rfl ?_; refine d_o [(27, _)] rfl rfl rfl z_su rfl q_fieldAddr z_fp z_ss rfl ?_; refine d_o [(28, _)] rfl rfl rfl z_su rfl q_load z_fp z_ss rfl ?_; refine d_o [(5, _)] rfl rfl rfl z_su rfl q_move z_fp z_ss rfl ?_; refine d_o [(30, _)] rfl rfl rfl z_su rfl q_full z_fp z_ss rfl ?_; refine d_o [(31, _)] rfl rfl rfl z_su rfl q_load z_fp z_ss rfl ?_; refine d_pure (callOf_eq rfl rfl rfl (mlk_tmp z_lk mlk_nil)) (habs) rfl rfl z_ip rfl z_fp ?_; refine d_o [(29, _), (33, _)] rfl rfl rfl z_su rfl q_full z_fp z_ss rfl ?_; refine d_o [(34, _)] rfl rfl rfl z_su rfl q_load z_fp z_ss rfl ?_; refine d_o [(35, _)] rfl rfl rfl z_su rfl q_move z_fp z_ss rfl ?_; exact d_end z_mt z_sn)) z_su ?_; clear z_ex)
        exact ⟨rfl, Sub.le z_su, by show _ ≤ nn + 40; simp, fun m k h => h⟩
    intro fr' S' hf hS
    refine WpM.less hS hf ?_
    clear hf hS fr' S'
    have hkl : k < s1.lv.length := by rw [hs1]; exact hL.k_lt
    ((repeat refine WpM.seq ?_); have z_ex := True.intro; refine WpM.regP [] ?_; intro K hK; refine s_o [(0, _)] rfl rfl rfl z_su rfl q_move z_fp z_ss ?_; refine s_o [(6, _)] rfl rfl rfl z_su rfl q_move z_fp z_ss ?_; refine s_call (callOf_eq rfl rfl rfl (mlk_tmp z_lk (mlk_tmp z_lk mlk_nil))) (back73 H0 sp s1 ⟨_, [], G⟩ hS1 w1 (by omega) k hkl) rfl rfl z_ip ?_; rintro _ z_S hS2; refine s_put z_fp ?_; refine s_endE [(0, _), (5, _)] hK z_su ?_; clear hK K; clear z_ex)
    refine WpM.norm ?_
    intro nn2 G2 hnn2 hG2 hk2
    have hG2 : G2 = z_S.get := hG2
    rw [← hG2] at hS2
    clear hG2 hk2 hnn2
    obtain ⟨s2, hs2⟩ : ∃ s2, s2 = s1.back k := ⟨_, rfl⟩
    have w2 : s2.Wf := by rw [hs2]; exact w1.back hkl
    obtain ⟨b1, b2, b3, b4, b5, b6⟩ := back_fields s1 k
    rw [← hs2] at hS2 hlearn b1 b2 b3 b4 b5 b6
    have c2 : s2.cs = s.cs := by rw [b2, hs1]
    have n2 : s2.n = s.n := by rw [b1, n1]
    obtain ⟨s3, hs3⟩ : ∃ s3, s3 = ({ s2 with cs := s2.cs ++ [x :: r] } : Sv) := ⟨_, rfl⟩
    have hlearn2 : s.learn m = (true, s3.put x (s2.cs.length + 1)) := by rw [hlearn, hs3, c2]
    have hS3 : ∀ S : St, SvS H0 sp s2 S.get → CallM Try.prog 52 [.ptr sp 0, .d (ints (x :: r))] S fun r' S' => r' = .d (.int .i64 s2.cs.length) ∧ SvS H0 sp s3 S'.get := fun S h => by
      rw [hs3]
      exact add52 H0 sp s2 (x :: r) S h (by rw [c2]; have := hb.ms; omega) (fun l hl => by have := hblit l hl; omega)
    have hS4 : ∀ S : St, SvS H0 sp s3 S.get → CallM Try.prog 74 [.ptr sp 0, .d (.int .i64 x), .d (.int .i64 (s2.cs.length + 1 : Nat))] S fun r' S' => r' = .tup [] ∧ SvS H0 sp (s3.put x (s2.cs.length + 1)) S'.get := fun S h => by
      obtain ⟨na, nv, nr, nd, nc, nt, nl, np, am, nx, et, el, hE⟩ := h
      have hx := hblit x (by simp)
      have ht := w2.trlen
      refine (put74 H0 sp s3 S na nv nr nd nc nl np am nx el ⟨nt, et, hE⟩ (by rw [hs3]; exact ⟨w2.vlen, w2.rlen, w2.dlen⟩) x (by rw [hs3]; show x.natAbs ≤ s2.n; omega) (by rw [hs3]; show s2.n ≤ 4096; omega) (s2.cs.length + 1) (by rw [hs3]; show s2.tr.length ≤ _; omega)).mono ?_
      rintro r' S' ⟨rfl, h⟩
      exact ⟨rfl, h.s⟩
    have hw64 : IntKind.i64.wrap ((s2.cs.length : Int) + 1) = ((s2.cs.length + 1 : Nat) : Int) := by
      have := hb.cs
      rw [wrap_id (by omega) (by rw [c2]; omega)]
      omega
    (repeat refine WpM.seq ?_)
    obtain ⟨L, hLd⟩ : ∃ L : List (Nat × V), L = [(39, .ptr sp 0), (40, .d (ints (x :: r))), (41, .rptr [.int .i64 x]), (42, .d (.int .i64 x)), (43, .ptr sp 0), (44, .d (ints (x :: r))), (45, .d (.int .i64 s2.cs.length)), (46, .d (.int .i64 (s2.cs.length + 1 : Nat))), (47, .tup [])] := ⟨_, rfl⟩
    refine WpM.drawCh mixed (slots_of (by kernel_rfl)) (by kernel_rfl) (fun k => frOf ((L.take k).reverse ++ [(0, .ptr sp 0), (5, .d (ints (x :: r)))])) (fun k => (L.getD k (0, .undef)).2) (fun p S => if p ≤ 6 then SvS H0 sp s2 S.get else if p ≤ 8 then SvS H0 sp s3 S.get else SvS H0 sp (s3.put x (s2.cs.length + 1)) S.get) (fun k => k == 6 || k == 8) ?_ ?_ ?_ ?_ ?_ ?_
    · intro k o ho
      have hk9 : k < 9 := (Array.getElem?_eq_some_iff.1 ho).1
      subst hLd
      obtain rfl | rfl | rfl | rfl | rfl | rfl | rfl | rfl | rfl : k = 0 ∨ k = 1 ∨ k = 2 ∨ k = 3 ∨ k = 4 ∨ k = 5 ∨ k = 6 ∨ k = 7 ∨ k = 8 := by omega
      all_goals (injection ho with ho; subst ho)
      · exact ⟨rfl, rfl, rfl, .inl ⟨rfl, rfl, rfl, fun nm => rfl, fun S => Iff.rfl⟩⟩
      · exact ⟨rfl, rfl, rfl, .inl ⟨rfl, rfl, rfl, fun nm => rfl, fun S => Iff.rfl⟩⟩
      · refine ⟨rfl, rfl, rfl, .inl ⟨rfl, rfl, rfl, fun nm => ?_, fun S => Iff.rfl⟩⟩
        (simp (maxSteps := 2000000) (disch := omega) [go_sem, -List.map_map, ints, hw64, List.getElem?_cons_zero])
      · refine ⟨rfl, rfl, rfl, .inl ⟨rfl, rfl, rfl, fun nm => ?_, fun S => Iff.rfl⟩⟩
        (simp (maxSteps := 2000000) (disch := omega) [go_sem, -List.map_map, ints, hw64, List.getElem?_cons_zero])
      · exact ⟨rfl, rfl, rfl, .inl ⟨rfl, rfl, rfl, fun nm => rfl, fun S => Iff.rfl⟩⟩
      · exact ⟨rfl, rfl, rfl, .inl ⟨rfl, rfl, rfl, fun nm => rfl, fun S => Iff.rfl⟩⟩
      · exact ⟨rfl, rfl, rfl, .inr ⟨rfl, 52, _, rfl, ip52, fun S h => hS3 S h⟩⟩
      · refine ⟨rfl, rfl, rfl, .inl ⟨rfl, rfl, rfl, fun nm => ?_, fun S => Iff.rfl⟩⟩
        (simp (maxSteps := 2000000) (disch := omega) [go_sem, -List.map_map, ints, hw64, List.getElem?_cons_zero])
      · exact ⟨rfl, rfl, rfl, .inr ⟨rfl, 74, _, rfl, ip74, fun S h => hS4 S h⟩⟩
    · intro p S m h hm
      exact h
    · intro i k hik hk hi hk'
      have hi' : i = 6 ∨ i = 8 := by simpa using hi
      have hk'' : k = 6 ∨ k = 8 := by simpa using hk'
      obtain ⟨rfl, rfl⟩ : i = 6 ∧ k = 8 := by omega
      rw [← List.contains_iff_mem, anc_bit]
      kernel_rfl
    · rw [hLd]; rfl
    · exact hS2
    · intro S' hS'
      have hS5 : SvS H0 sp (s3.put x (s2.cs.length + 1)) S'.get := hS'
      refine WpM.less (St.Le.refl _) (fr' := frOf []) (fun t => .inr rfl) ?_
      refine WpM.norm ?_
      intro nn3 G3 hnn3 hG3 hk3
      rw [← hG3] at hS5
      clear hG3 hk3 hnn3 hS'
      ((repeat refine WpM.seq ?_); have z_ex := True.intro; refine WpM.regPE [] [(4, _)] (by (refine s_o [] rfl rfl rfl z_su rfl q_move z_fp z_ss ?_; exact wpS_nil ⟨rfl, rfl⟩)) z_su ?_; clear z_ex)
      refine WpM.ret ?_
      exact ⟨.inr rfl, Upd.done ⟨.d (.bool true), (by (simp (maxSteps := 2000000) (disch := omega) [go_sem, -List.map_map, resV, resVs, resV1])), by rw [hlearn2], by rw [hlearn2]; exact hS5⟩⟩
end Go.Proofs.Ytafeehlpmdligaa
