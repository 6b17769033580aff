/- solve: abs, truth, put. -/
import Derived.Test.YtafeehlpmdligaaRMd
import Derived.Test.YtafeehlpmdligaaROp
import Derived.Test.YtafeehlpmdligaaRSvM
namespace Go.Proofs.Ytafeehlpmdligaa
open Go.RowKit M
set_option linter.unusedSimpArgs false
set_option linter.unusedVariables false
theorem abs72 (l : Int) (h : -1000000 ≤ l ∧ l ≤ 1000000) : PureC Try.prog 72 [.d (.int .i64 l)] (.d (.int .i64 l.natAbs)) := by
  refine PureC.of (n := 7) Try.func72 rfl rfl (by simp) (by simp only [argL, Nat.reduceAdd] <;> rfl) rfl ?_
  intro n0 H hH
  obtain ⟨h1, h2⟩ := h
  have e : (if l < -l then -l else l) = (l.natAbs : Int) := by split <;> omega
  ((repeat refine WpM.seq ?_); have z_ex := True.intro; refine WpM.regPE [] [(0, _)] (by (refine s_o [] rfl rfl rfl z_su rfl q_move z_fp z_ss ?_; exact wpS_nil ⟨rfl, rfl⟩)) z_su ?_; clear z_ex)
  ((repeat refine WpM.seq ?_); have z_ex := (And.intro @wrap_0sub (And.intro @wrap_neg (And.intro @e True.intro))); refine WpM.regPE [] [(2, _)] (by (refine s_o [(0, _)] rfl rfl rfl z_su rfl q_move z_fp z_ss ?_; refine s_o [(0, _)] rfl rfl rfl z_su rfl q_move z_fp z_ss ?_; refine s_o [(4, _)] rfl rfl rfl z_su rfl q_unOp z_fp z_ss ?_; refine s_o [(3, _), (5, _)] rfl rfl rfl z_su rfl q_full z_fp z_ss ?_; refine s_o [(6, _)] rfl rfl rfl z_su rfl q_move z_fp z_ss ?_; exact wpS_nil ⟨rfl, rfl⟩)) z_su ?_; clear z_ex)
  (refine WpM.ret ?_; refine ⟨.inr rfl, Upd.done ?_⟩; (simp (maxSteps := 2000000) (disch := omega) [go_sem, -List.map_map, resV, resVs, resV1,]))
theorem i8_get {val : List Int} {v : Nat} (h : v < val.length) : (val.map i8)[v]? = some (.d (.int .i8 (val.getD v 0))) := by simp [h, i8]
theorem neg8 {x : Int} (h : x = 0 ∨ x = 1 ∨ x = -1) : IntKind.i8.wrap (-x) = -x := by
  rcases h with rfl | rfl | rfl <;> decide
theorem neg8' {x : Int} (h : x = 0 ∨ x = 1 ∨ x = -1) : IntKind.i8.wrap (0 - x) = -x := by
  rcases h with rfl | rfl | rfl <;> decide
theorem truth78 (s : Sv) (hs : s.Len) (ht : ∀ v, s.val.getD v 0 = 0 ∨ s.val.getD v 0 = 1 ∨ s.val.getD v 0 = -1) (l : Int) (hn : l.natAbs ≤ s.n) (hb : s.n ≤ 4096) (sp na nv nr nd nc nt nl np : Nat) (S : St) (hbox : S.get sp = some (svBox s na nv nr nd nc nt nl np)) (hrow : S.get nv = some (.row 1 (s.val.map i8))) :
    PureS Try.prog 78 [.ptr sp 0, .d (.int .i64 l)] (.d (.int .i8 (truV s.val l))) S := by
  refine PureS.of (n := 23) Try.func78 rfl rfl (by simp) (by simp only [argL, Nat.reduceAdd] <;> rfl) rfl ?_
  intro n0 H hH0 hH
  rw [hH0] at hbox hrow
  have g1 := hH _ _ hbox
  have g2 := hH _ _ hrow
  have hlen := hs.val
  have hget := i8_get (val := s.val) (v := l.natAbs) (by omega)
  have h3 := ht l.natAbs
  ((repeat refine WpM.seq ?_); have z_ex := True.intro; refine WpM.regPE [] [(0, _), (1, _)] (by (refine s_o [] rfl rfl rfl z_su rfl q_move z_fp z_ss ?_; exact wpS_nil ⟨rfl, rfl⟩)) z_su ?_; clear z_ex)
  ((repeat refine WpM.seq ?_); have z_ex := True.intro; refine WpM.regPE [] [(0, _), (1, _), (6, _)] (by (refine s_o [(1, _)] rfl rfl rfl z_su rfl q_move z_fp z_ss ?_; refine s_o [(5, _)] rfl rfl rfl z_su rfl q_full z_fp z_ss ?_; exact wpS_nil ⟨rfl, rfl⟩)) z_su ?_; clear z_ex)
  by_cases hl : l < 0
  · have hT : truV s.val l = -(s.val.getD l.natAbs 0) := by unfold truV; rw [if_pos hl]
    have hx : -l = ((l.natAbs : Nat) : Int) := by omega
    have hnn : l.natAbs < s.n + 1 := by omega
    obtain ⟨x, hxe⟩ : ∃ x, x = s.val.getD l.natAbs 0 := ⟨_, rfl⟩
    rw [← hxe] at hget h3 hT
    have hw := neg8 h3
    have hw' := neg8' h3
    ((repeat refine WpM.seq ?_); refine WpM.condT (by (simp (maxSteps := 2000000) (disch := omega) [go_sem, -List.map_map, hl])) ?_)
    ((repeat refine WpM.seq ?_); have z_ex := (And.intro @hbox (And.intro @hrow (And.intro @svBox.eq_1 (And.intro @wrap_neg (And.intro @wrap_0sub (And.intro @hx (And.intro @hget (And.intro @hw (And.intro @hw' (And.intro @hnn True.intro)))))))))); refine WpM.regPE [] [(4, _)] (by (refine s_o [(0, _)] rfl rfl rfl z_su rfl q_move z_fp z_ss ?_; refine s_o [(7, _)] rfl rfl rfl z_su rfl q_move z_fp z_ss ?_; refine s_o [(8, _)] rfl rfl rfl z_su rfl q_fieldAddr z_fp z_ss ?_; refine s_o [(9, _)] rfl rfl rfl z_su rfl q_load z_fp z_ss ?_; refine s_o [(1, _)] rfl rfl rfl z_su rfl q_move z_fp z_ss ?_; refine s_o [(11, _)] rfl rfl rfl z_su rfl q_unOp z_fp z_ss ?_; refine s_o [(10, _), (12, _)] rfl rfl rfl z_su rfl q_full z_fp z_ss ?_; refine s_o [(13, _)] rfl rfl rfl z_su rfl q_load z_fp z_ss ?_; refine s_o [(14, _)] rfl rfl rfl z_su rfl q_unOp z_fp z_ss ?_; refine s_o [(15, _)] rfl rfl rfl z_su rfl q_move z_fp z_ss ?_; exact wpS_nil ⟨rfl, rfl⟩)) z_su ?_; clear z_ex)
    (refine WpM.ret ?_; refine ⟨.inr rfl, Upd.done ?_⟩; (simp (maxSteps := 2000000) (disch := omega) [go_sem, -List.map_map, resV, resVs, resV1, hT]))
  · have hT : truV s.val l = s.val.getD l.natAbs 0 := by unfold truV; rw [if_neg hl]
    have hx : l = ((l.natAbs : Nat) : Int) := by omega
    have hnn : l.natAbs < s.n + 1 := by omega
    obtain ⟨v, hv⟩ : ∃ v, v = l.natAbs := ⟨_, rfl⟩
    rw [← hv] at hx hget hnn hT
    rw [hT]
    clear hT hv h3 hn hl
    subst hx
    ((repeat refine WpM.seq ?_); refine WpM.condF (by (simp (maxSteps := 2000000) (disch := omega) [go_sem, -List.map_map])) ?_)
    refine WpM.skip ?_
    ((repeat refine WpM.seq ?_); have z_ex := (And.intro @hbox (And.intro @hrow (And.intro @svBox.eq_1 (And.intro @hget (And.intro @hnn True.intro))))); refine WpM.regPE [] [(4, _)] (by (refine s_o [(0, _)] rfl rfl rfl z_su rfl q_move z_fp z_ss ?_; refine s_o [(16, _)] rfl rfl rfl z_su rfl q_move z_fp z_ss ?_; refine s_o [(17, _)] rfl rfl rfl z_su rfl q_fieldAddr z_fp z_ss ?_; refine s_o [(18, _)] rfl rfl rfl z_su rfl q_load z_fp z_ss ?_; refine s_o [(1, _)] rfl rfl rfl z_su rfl q_move z_fp z_ss ?_; refine s_o [(19, _), (20, _)] rfl rfl rfl z_su rfl q_full z_fp z_ss ?_; refine s_o [(21, _)] rfl rfl rfl z_su rfl q_load z_fp z_ss ?_; refine s_o [(22, _)] rfl rfl rfl z_su rfl q_move z_fp z_ss ?_; exact wpS_nil ⟨rfl, rfl⟩)) z_su ?_; clear z_ex)
    (refine WpM.ret ?_; refine ⟨.inr rfl, Upd.done ?_⟩; (simp (maxSteps := 2000000) (disch := omega) [go_sem, -List.map_map, resV, resVs, resV1,]))
end Go.Proofs.Ytafeehlpmdligaa
/- solve: put. -/
namespace Go.Proofs.Ytafeehlpmdligaa
open Go.RowKit M
set_option linter.unusedSimpArgs false
set_option linter.unusedVariables false
theorem nl_get {val : List Nat} {v : Nat} (h : v < val.length) : (val.map nlit)[v]? = some (.d (.int .i64 (val.getD v 0))) := by simp [h, nlit]
set_option maxHeartbeats 8000000 in
theorem put74 (H0 : Nat → Option Blk) (sp : Nat) (s : Sv) (S : St) (na nv nr nd nc nl np : Nat) (am : D → Option V) (nx : Int → Nat) (el : List V) (h : SvF H0 sp s S.get na nv nr nd nc nl np am nx el) (hL : s.Len) (l : Int) (hn : l.natAbs ≤ s.n) (hb : s.n ≤ 4096) (why : Nat) (htr : s.tr.length ≤ 1000000000) :
    CallM Try.prog 74 [.ptr sp 0, .d (.int .i64 l), .d (.int .i64 why)] S fun r S' => r = .tup [] ∧ SvF H0 sp (s.put l why) S'.get na nv nr nd nc nl np am nx el := by
  refine CallM.start (n := 47) Try.func74 rfl rfl (by simp) (by simp only [argL, Nat.reduceAdd] <;> rfl) ?_
  intro hH
  obtain ⟨H, hHe⟩ : ∃ H, H = S.get := ⟨_, rfl⟩
  obtain ⟨n0, hne⟩ : ∃ n0, n0 = S.next := ⟨_, rfl⟩
  rw [← hHe, ← hne] at hH ⊢
  rw [← hHe] at h
  obtain ⟨nt, et, hE⟩ := h
  have k1 := hE.box
  have k2 := hE.rv
  have k3 := hE.rr
  have k4 := hE.rd
  have k5 := hE.rt
  have g1 := hH _ _ k1
  have g2 := hH _ _ k2
  have g3 := hH _ _ k3
  have g4 := hH _ _ k4
  have g5 := hH _ _ k5
  have a2 := hE.o2
  have a3 := hE.o3
  have a4 := hE.o4
  have a6 := hE.o6
  have v1 := hL.val
  have v2 := hL.rea
  have v3 := hL.dep
  have habs := abs72 l (by omega)
  have hnn : l.natAbs < s.n + 1 := by omega
  have htk : (s.tr.map lit ++ et).take s.tr.length = s.tr.map lit := by rw [List.take_append_of_le_length (by simp), List.take_of_length_le (by simp)]
  have q2 := i8_get (val := s.val) (v := l.natAbs) (by omega)
  have q3 := nl_get (val := s.rea) (v := l.natAbs) (by omega)
  have q4 := nl_get (val := s.dep) (v := l.natAbs) (by omega)
  ((repeat refine WpM.seq ?_); have z_ex := True.intro; refine WpM.regPE [] [(0, _), (1, _), (2, _), (6, _)] (by (refine s_o [] rfl rfl rfl z_su rfl q_move z_fp z_ss ?_; exact wpS_nil ⟨rfl, rfl⟩)) z_su ?_; clear z_ex)
  ((repeat refine WpM.seq ?_); have z_ex := True.intro; refine WpM.regPE [] [(0, _), (1, _), (2, _), (6, _), (8, _)] (by (refine s_o [(1, _)] rfl rfl rfl z_su rfl q_move z_fp z_ss ?_; refine s_o [(7, _)] rfl rfl rfl z_su rfl q_full z_fp z_ss ?_; exact wpS_nil ⟨rfl, rfl⟩)) z_su ?_; clear z_ex)
  (repeat refine WpM.seq ?_)
  refine WpM.meet (frOf [(0, .ptr sp 0), (1, .d (.int .i64 l)), (2, .d (.int .i64 why)), (6, .d (.int .i8 (sideOf l)))]) ⟨n0 + 4, [], H⟩ ?_ ?_
  · by_cases hl : l < 0
    · have hs : sideOf l = -1 := by unfold sideOf; rw [if_pos hl]
      rw [hs]
      ((repeat refine WpM.seq ?_); refine WpM.condT (by (simp (maxSteps := 2000000) (disch := omega) [go_sem, -List.map_map, hl])) ?_)
      ((repeat refine WpM.seq ?_); have z_ex := True.intro; refine WpM.regPE [] [(0, _), (1, _), (2, _), (6, _)] (by (refine s_o [] rfl rfl rfl z_su rfl q_move z_fp z_ss ?_; exact wpS_nil ⟨rfl, rfl⟩)) z_su ?_; clear z_ex)
      exact ⟨rfl, (Sub.le z_su), by show _ ≤ n0 + 4; simp, fun m k h => h⟩
    · have hs : sideOf l = 1 := by unfold sideOf; rw [if_neg hl]
      rw [hs]
      ((repeat refine WpM.seq ?_); refine WpM.condF (by (simp (maxSteps := 2000000) (disch := omega) [go_sem, -List.map_map, hl])) ?_)
      refine WpM.skip ?_
      exact ⟨rfl, (Sub.le z_su), by show _ ≤ n0 + 4; simp, fun m k h => h⟩
  intro fr' S' hf hS
  refine WpM.less hS hf ?_
  clear hf hS fr' S'
  ((repeat refine WpM.seq ?_); have z_ex := (And.intro @k1 (And.intro @k2 (And.intro @k3 (And.intro @k4 (And.intro @svBox.eq_1 (And.intro @hnn (And.intro @v1 (And.intro @v2 (And.intro @v3 (And.intro @q2 (And.intro @q3 (And.intro @q4 True.intro)))))))))))); refine WpM.drwPE [] [(0, _), (1, _)] mixed (slots_of (by kernel_rfl)) (by kernel_rfl) [(3, 5), (5, 9), (3, 11), (9, 11), (5, 15), (11, 15), (3, 17), (9, 17), (15, 17), (5, 23), (11, 23), (17, 23)] (unord_of (by kernel_rfl)) (by (refine d_o [(0, _)] rfl rfl rfl z_su rfl q_move z_fp z_ss rfl ?_; refine d_o [(9, _)] rfl rfl rfl z_su rfl q_move z_fp z_ss rfl ?_; refine d_o [(10, _)] rfl rfl rfl z_su rfl q_fieldAddr z_fp z_ss rfl ?_; refine d_o [(11, _)] rfl rfl rfl z_su rfl q_load z_fp z_ss rfl ?_; refine d_o [(1, _)] rfl rfl rfl z_su rfl q_move z_fp z_ss rfl ?_; refine d_pure (callOf_eq rfl rfl rfl (mlk_tmp z_lk mlk_nil)) (habs) rfl rfl z_ip rfl z_fp ?_; refine d_o [(0, _)] rfl rfl rfl z_su rfl q_move z_fp z_ss rfl ?_; refine d_o [(15, _)] rfl rfl rfl z_su rfl q_move z_fp z_ss rfl ?_; refine d_o [(16, _)] rfl rfl rfl z_su rfl q_fieldAddr z_fp z_ss rfl ?_; refine d_o [(17, _)] rfl rfl rfl z_su rfl q_load z_fp z_ss rfl ?_; refine d_o [(1, _)] rfl rfl rfl z_su rfl q_move z_fp z_ss rfl ?_; refine d_pure (callOf_eq rfl rfl rfl (mlk_tmp z_lk mlk_nil)) (habs) rfl rfl z_ip rfl z_fp ?_; refine d_o [(0, _)] rfl rfl rfl z_su rfl q_move z_fp z_ss rfl ?_; refine d_o [(21, _)] rfl rfl rfl z_su rfl q_move z_fp z_ss rfl ?_; refine d_o [(22, _)] rfl rfl rfl z_su rfl q_fieldAddr z_fp z_ss rfl ?_; refine d_o [(23, _)] rfl rfl rfl z_su rfl q_load z_fp z_ss rfl ?_; refine d_o [(1, _)] rfl rfl rfl z_su rfl q_move z_fp z_ss rfl ?_; refine d_pure (callOf_eq rfl rfl rfl (mlk_tmp z_lk mlk_nil)) (habs) rfl rfl z_ip rfl z_fp ?_; refine d_o [(6, _)] rfl rfl rfl z_su rfl q_move z_fp z_ss rfl ?_; refine d_o [(2, _)] rfl rfl rfl z_su rfl q_move z_fp z_ss rfl ?_; refine d_o [(0, _)] rfl rfl rfl z_su rfl q_move z_fp z_ss rfl ?_; refine d_o [(29, _)] rfl rfl rfl z_su rfl q_move z_fp z_ss rfl ?_; refine d_o [(30, _)] rfl rfl rfl z_su rfl q_fieldAddr z_fp z_ss rfl ?_; refine d_o [(31, _)] rfl rfl rfl z_su rfl q_load z_fp z_ss rfl ?_; refine d_o [(32, _)] rfl rfl rfl z_su rfl q_full z_fp z_ss rfl ?_; refine d_o [(12, _), (14, _)] rfl rfl rfl z_su rfl q_full z_fp z_ss rfl ?_; refine d_o [(27, _), (34, _)] rfl rfl rfl z_su rfl q_store z_fp z_ss rfl ?_; refine d_o [(18, _), (20, _)] rfl rfl rfl z_su rfl q_full z_fp z_ss rfl ?_; refine d_o [(28, _), (35, _)] rfl rfl rfl z_su rfl q_store z_fp z_ss rfl ?_; refine d_o [(24, _), (26, _)] rfl rfl rfl z_su rfl q_full z_fp z_ss rfl ?_; refine d_o [(33, _), (36, _)] rfl rfl rfl z_su rfl q_store z_fp z_ss rfl ?_; exact d_end z_mt z_sn)) z_su ?_; clear z_ex)
  have hsv : sp ≠ nv := by omega
  have hsr : sp ≠ nr := by omega
  have hsd : sp ≠ nd := by omega
  have htv : nt ≠ nv := by omega
  have htr' : nt ≠ nr := by omega
  have htd : nt ≠ nd := by omega
  have hst : sp ≠ nt := by omega
  ((repeat refine WpM.seq ?_); have z_ex := (And.intro @k1 (And.intro @k5 (And.intro @svBox.eq_1 (And.intro @htk True.intro)))); refine WpM.regPE [] [] (by (refine s_o [(0, _)] rfl rfl rfl z_su rfl q_move z_fp z_ss ?_; refine s_o [(0, _)] rfl rfl rfl z_su rfl q_move z_fp z_ss ?_; refine s_o [(38, _)] rfl rfl rfl z_su rfl q_move z_fp z_ss ?_; refine s_o [(39, _)] rfl rfl rfl z_su rfl q_fieldAddr z_fp z_ss ?_; refine s_o [(40, _)] rfl rfl rfl z_su rfl q_load z_fp z_ss ?_; refine s_o [(1, _)] rfl rfl rfl z_su rfl q_move z_fp z_ss ?_; refine s_o [(42, _)] rfl rfl rfl z_su rfl q_full z_fp z_ss ?_; refine s_o [(41, _), (43, _)] rfl rfl rfl z_su rfl q_full z_fp z_ss ?_; refine s_o [(37, _)] rfl rfl rfl z_su rfl q_move z_fp z_ss ?_; refine s_o [(45, _)] rfl rfl rfl z_su rfl q_fieldAddr z_fp z_ss ?_; refine s_o [(44, _), (46, _)] rfl rfl rfl z_su rfl q_store z_fp z_ss ?_; exact wpS_nil ⟨rfl, rfl⟩)) z_su ?_; clear z_ex)
  refine ⟨.inl rfl, Upd.done ⟨.tup [], (by (simp (maxSteps := 2000000) (disch := omega) [go_sem, -List.map_map, resV, resVs, resV1])), rfl, n0 + 42, [], ?_⟩⟩
  generalize hG1 : St.get _ = G1
  refine hE.put (x := n0 + 42) l why (fun m k hk => by have := hH _ _ hk; omega) ?_ ?_ ?_ ?_ ?_ ?_
  · rw [← hG1]; (simp (maxSteps := 2000000) (disch := omega) [go_sem, -List.map_map, svBox, Sv.put])
  · rw [← hG1]; (simp (maxSteps := 2000000) (disch := omega) [go_sem, -List.map_map, Sv.put, List.map_set, i8])
  · rw [← hG1]; (simp (maxSteps := 2000000) (disch := omega) [go_sem, -List.map_map, Sv.put, List.map_set, nlit])
  · rw [← hG1]; (simp (maxSteps := 2000000) (disch := omega) [go_sem, -List.map_map, Sv.put, List.map_set, nlit])
  · rw [← hG1]; (simp (maxSteps := 2000000) (disch := omega) [go_sem, -List.map_map, Sv.put, lit])
  · intro m k hk m1 m2 m3 m4 m5
    have := hH _ _ hk
    rw [← hG1]
    (simp (maxSteps := 2000000) (disch := omega) [go_sem, -List.map_map, hk, m1, m2, m3, m4, m5])
end Go.Proofs.Ytafeehlpmdligaa
