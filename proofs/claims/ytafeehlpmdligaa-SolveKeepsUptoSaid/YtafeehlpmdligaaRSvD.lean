/- solve: follow, begin. -/
import Derived.Test.YtafeehlpmdligaaROp
import Derived.Test.YtafeehlpmdligaaRSvC
namespace Go.Proofs.Ytafeehlpmdligaa
open Go.RowKit M
set_option linter.unusedSimpArgs false
set_option linter.unusedVariables false
def wI : Option Nat → Int
  | none => -1
  | some m => m
theorem lit_get {val : List Int} {et : List V} {v : Nat} (h : v < val.length) : (val.map lit ++ et)[v]? = some (.d (.int .i64 (val.getD v 0))) := by
  rw [List.getElem?_append_left (by simpa using h)]
  simp [h, lit]
/-- What bounds there are. -/
structure Small (s : Sv) : Prop where
  n : s.n ≤ 4096
  cs : s.cs.length ≤ 1000000
  cl : ∀ m, (s.cs.getD m []).length ≤ 1000000
  ms : mass s.cs ≤ 100000000
  pf : s.pf.length ≤ 1000000
theorem Small.le {s s' : Sv} (h : Small s) (hl : s.Le s') : Small s' := ⟨by rw [hl.n]; exact h.n, by rw [hl.cs]; exact h.cs, by rw [hl.cs]; exact h.cl, by rw [hl.cs]; exact h.ms, by rw [hl.pf]; exact h.pf⟩
set_option maxHeartbeats 8000000 in
theorem follow54 (H0 : Nat → Option Blk) (sp : Nat) (s : Sv) (S : St) (na nv nr nd nc nl np : Nat) (am : D → Option V) (nx : Int → Nat) (el : List V) (h : SvF H0 sp s S.get na nv nr nd nc nl np am nx el) (hw : s.Wf) (hc : s.Cur) (hb : Small s) :
    CallM Try.prog 54 [.ptr sp 0] S fun r S' => r = .d (.int .i64 (wI s.follow.2)) ∧ SvF H0 sp s.follow.1 S'.get na nv nr nd nc nl np am nx el := by
  refine CallM.start (n := 50) Try.func54 rfl rfl (by simp) (by simp only [argL, Nat.reduceAdd] <;> rfl) ?_
  intro hH
  obtain ⟨H, hHe⟩ : ∃ H, H = S.get := ⟨_, rfl⟩
  obtain ⟨n0, hne⟩ : ∃ n0, n0 = S.next := ⟨_, rfl⟩
  rw [← hHe, ← hne] at hH ⊢
  rw [← hHe] at h
  have hfol := (follow_spec hw hc).1
  ((repeat refine WpM.seq ?_); have z_ex := True.intro; refine WpM.regPE [] [(0, _)] (by (refine s_o [] rfl rfl rfl z_su rfl q_move z_fp z_ss ?_; exact wpS_nil ⟨rfl, rfl⟩)) z_su ?_; clear z_ex)
  ((repeat refine WpM.seq ?_); refine WpM.block ?_)
  refine WpM.loop (fun (x : Sv × Nat) fr S => x.1.Wf ∧ x.1.Cur ∧ Small x.1 ∧ x.1.followN x.2 = some s.follow ∧ (∃ nn G, S = ⟨nn, [], G⟩ ∧ SvF H0 sp x.1 G na nv nr nd nc nl np am nx el) ∧ fr = frOf [(0, .ptr sp 0)]) (fun x => x.2) (s, s.n + 2) (St.Le.refl _) (Sub.le z_su) ⟨hw, hc, hb, hfol, ⟨_, H, rfl, h⟩, rfl⟩ ?_
  rintro ⟨t, k⟩ fr S' ⟨tw, tc, tb, tf, ⟨nn, G, rfl, hF⟩, rfl⟩
  simp only at tw tc tb tf hF
  refine WpM.known fun hGk => ?_
  have hGk : ∀ m k, G m = some k → m < nn := hGk
  obtain ⟨nt, et, hE⟩ := hF
  have k1 := hE.box
  have k5 := hE.rt
  have g1 := hGk _ _ k1
  have g5 := hGk _ _ k5
  have a6 := hE.o6
  have htl := tw.tr_len
  have hdl := tw.dnl
  have hbn := tb.n
  cases k with
  | zero => cases tf
  | succ k =>
  rw [Sv.followN] at tf
  ((repeat refine WpM.seq ?_); have z_ex := (And.intro @k1 (And.intro @svBox.eq_1 True.intro)); refine WpM.drwPE [] [(0, _), (15, _)] mixed (slots_of (by kernel_rfl)) (by kernel_rfl) [] (unord_of (by kernel_rfl)) (by (refine d_o [(0, _)] rfl rfl rfl z_su rfl q_move z_fp z_ss rfl ?_; refine d_o [(6, _)] rfl rfl rfl z_su rfl q_move z_fp z_ss rfl ?_; refine d_o [(7, _)] rfl rfl rfl z_su rfl q_fieldAddr z_fp z_ss rfl ?_; refine d_o [(8, _)] rfl rfl rfl z_su rfl q_load z_fp z_ss rfl ?_; refine d_o [(0, _)] rfl rfl rfl z_su rfl q_move z_fp z_ss rfl ?_; refine d_o [(10, _)] rfl rfl rfl z_su rfl q_move z_fp z_ss rfl ?_; refine d_o [(11, _)] rfl rfl rfl z_su rfl q_fieldAddr z_fp z_ss rfl ?_; refine d_o [(12, _)] rfl rfl rfl z_su rfl q_load z_fp z_ss rfl ?_; refine d_o [(13, _)] rfl rfl rfl z_su rfl q_full z_fp z_ss rfl ?_; refine d_o [(9, _), (14, _)] rfl rfl rfl z_su rfl q_full z_fp z_ss rfl ?_; exact d_end z_mt z_sn)) z_su ?_; clear z_ex)
  by_cases hd : t.dn < t.tr.length
  · rw [if_pos hd] at tf
    ((repeat refine WpM.seq ?_); refine WpM.condT (by (simp (maxSteps := 2000000) (disch := omega) [go_sem, -List.map_map, hd])) ?_)
    refine WpM.skip ?_
    ((repeat refine WpM.seq ?_); refine WpM.block ?_)
    obtain ⟨l, hl⟩ : ∃ l, l = t.tr[t.dn] := ⟨_, rfl⟩
    have hlg : t.tr.getD t.dn 0 = l := by rw [hl]; simp [hd]
    have hget := lit_get (val := t.tr) (et := et) hd
    rw [hlg] at hget
    obtain ⟨l0, ln⟩ := tw.trl l (hl ▸ List.getElem_mem _)
    ((repeat refine WpM.seq ?_); have z_ex := (And.intro @k1 (And.intro @k5 (And.intro @svBox.eq_1 (And.intro @hget (And.intro @hd True.intro))))); refine WpM.drwPE [] [(0, _), (3, _)] mixed (slots_of (by kernel_rfl)) (by kernel_rfl) [] (unord_of (by kernel_rfl)) (by (refine d_o [(0, _)] rfl rfl rfl z_su rfl q_move z_fp z_ss rfl ?_; refine d_o [(16, _)] rfl rfl rfl z_su rfl q_move z_fp z_ss rfl ?_; refine d_o [(17, _)] rfl rfl rfl z_su rfl q_fieldAddr z_fp z_ss rfl ?_; refine d_o [(18, _)] rfl rfl rfl z_su rfl q_load z_fp z_ss rfl ?_; refine d_o [(0, _)] rfl rfl rfl z_su rfl q_move z_fp z_ss rfl ?_; refine d_o [(20, _)] rfl rfl rfl z_su rfl q_move z_fp z_ss rfl ?_; refine d_o [(21, _)] rfl rfl rfl z_su rfl q_fieldAddr z_fp z_ss rfl ?_; refine d_o [(22, _)] rfl rfl rfl z_su rfl q_load z_fp z_ss rfl ?_; refine d_o [(19, _), (23, _)] rfl rfl rfl z_su rfl q_full z_fp z_ss rfl ?_; refine d_o [(24, _)] rfl rfl rfl z_su rfl q_load z_fp z_ss rfl ?_; refine d_o [(25, _)] rfl rfl rfl z_su rfl q_move z_fp z_ss rfl ?_; exact d_end z_mt z_sn)) z_su ?_; clear z_ex)
    ((repeat refine WpM.seq ?_); have z_ex := (And.intro @k1 (And.intro @svBox.eq_1 (And.intro @wrap_id True.intro))); refine WpM.regPE [] [(0, _), (3, _)] (by (refine s_o [(0, _)] rfl rfl rfl z_su rfl q_move z_fp z_ss ?_; refine s_o [(26, _)] rfl rfl rfl z_su rfl q_move z_fp z_ss ?_; refine s_o [(27, _)] rfl rfl rfl z_su rfl q_fieldAddr z_fp z_ss ?_; refine s_o [(28, _)] rfl rfl rfl z_su rfl q_load z_fp z_ss ?_; refine s_o [(29, _)] rfl rfl rfl z_su rfl q_full z_fp z_ss ?_; refine s_o [(26, _)] rfl rfl rfl z_su rfl q_move z_fp z_ss ?_; refine s_o [(31, _)] rfl rfl rfl z_su rfl q_fieldAddr z_fp z_ss ?_; refine s_o [(30, _), (32, _)] rfl rfl rfl z_su rfl q_store z_fp z_ss ?_; exact wpS_nil ⟨rfl, rfl⟩)) z_su ?_; clear z_ex)
    refine WpM.norm ?_
    intro nn1 G1 hnn1 hG1 hk1
    have hnn1 : nn1 = nn + 29 := hnn1
    have hE1 : SvE H0 sp ({ t with dn := t.dn + 1 } : Sv) (ocs t.cs) G1 na nv nr nd nc nt nl np am nx et el := by
      refine hE.done (t.dn + 1) ?_ fun m hm => ?_
      · rw [hG1]; (simp (maxSteps := 2000000) (disch := omega) [go_sem, -List.map_map, svBox])
      · rw [hG1]; (simp (maxSteps := 2000000) (disch := omega) [go_sem, -List.map_map, hm])
    have hgk1 : ∀ m k, G1 m = some k → m < nn1 := hk1
    clear hG1 hk1
    obtain ⟨s1, hs1⟩ : ∃ s1, s1 = ({ t with dn := t.dn + 1 } : Sv) := ⟨_, rfl⟩
    have w1 : s1.Wf := by rw [hs1]; exact ⟨tw.vlen, tw.rlen, tw.dlen, tw.lit, tw.trl, tw.nodup, tw.tval, tw.tri, tw.zero, tw.lvs, tw.lvl, hd, tw.dpt, tw.dec, tw.why⟩
    have c1 : s1.cs = t.cs := by rw [hs1]
    have n1 : s1.n = t.n := by rw [hs1]
    have hround : t.round = s1.looks (ocs t.cs l) := by rw [Sv.round, hlg, hs1]
    have hrs := round_spec tw tc hd
    rw [← hs1] at hE1
    have k2 := hE1.box
    have kat := hE1.at_
    have k7 := kat.map
    have g7 := hgk1 _ _ k7
    have hLm : ∀ m ∈ ocs t.cs l, m < t.cs.length := fun m hm => by
      obtain ⟨c, hc, _⟩ := (mem_ocs t.cs).1 hm
      exact (List.getElem?_eq_some_iff.1 hc).1
    obtain ⟨L, hL⟩ : ∃ L, L = ocs t.cs l := ⟨_, rfl⟩
    have hLlen : L.length ≤ 100000000 := by
      have := len_ocs (l := l) t.cs
      have := tb.ms
      rw [hL]; omega
    have hnone := kat.none l
    have hsome := kat.some l
    rw [← hL] at hround hLm hnone hsome
    have b1 : Small s1 := ⟨by rw [n1]; exact tb.n, by rw [c1]; exact tb.cs, by rw [c1]; exact tb.cl, by rw [c1]; exact tb.ms, by rw [hs1]; exact tb.pf⟩
    by_cases hL0 : L = []
    · have k6 := hnone hL0
      rw [hL0] at hround
      rw [hround] at tf hrs
      obtain ⟨i1, i2, i3, i4⟩ := hrs
      ((repeat refine WpM.seq ?_); have z_ex := (And.intro @k2 (And.intro @k7 (And.intro @k6 (And.intro @svBox.eq_1 True.intro)))); refine WpM.regPE [] [(0, _), (38, _), (39, _), (40, _)] (by (refine s_o [(0, _)] rfl rfl rfl z_su rfl q_move z_fp z_ss ?_; refine s_o [(33, _)] rfl rfl rfl z_su rfl q_move z_fp z_ss ?_; refine s_o [(34, _)] rfl rfl rfl z_su rfl q_fieldAddr z_fp z_ss ?_; refine s_o [(35, _)] rfl rfl rfl z_su rfl q_load z_fp z_ss ?_; refine s_o [(3, _)] rfl rfl rfl z_su rfl q_move z_fp z_ss ?_; refine s_o [(36, _), (37, _)] rfl rfl rfl z_su rfl q_lookup z_fp z_ss ?_; refine s_o [(38, _)] rfl rfl rfl z_su rfl q_full z_fp z_ss ?_; refine s_o [] rfl rfl rfl z_su rfl q_move z_fp z_ss ?_; exact wpS_nil ⟨rfl, rfl⟩)) z_su ?_; clear z_ex)
      ((repeat refine WpM.seq ?_); refine WpM.block ?_)
      refine WpM.loop (fun (x : Unit) fr S => S = ⟨nn1 + 8, [], G1⟩ ∧ fr = frOf [(0, .ptr sp 0), (38, .nil), (39, .d (.int .i64 0)), (40, .d (.int .i64 0))]) (fun x => 0) () (St.Le.refl _) (Sub.le z_su) ⟨rfl, rfl⟩ ?_
      rintro _ fr S' ⟨rfl, rfl⟩
      ((repeat refine WpM.seq ?_); have z_ex := True.intro; refine WpM.regPE [] [(0, _), (38, _), (39, _), (40, _), (41, _)] (by (refine s_o [(39, _), (40, _)] rfl rfl rfl z_su rfl q_full z_fp z_ss ?_; exact wpS_nil ⟨rfl, rfl⟩)) z_su ?_; clear z_ex)
      ((repeat refine WpM.seq ?_); refine WpM.condF (by (simp (maxSteps := 2000000) (disch := omega) [go_sem, -List.map_map])) ?_)
      (refine WpM.exit ?_; (repeat (with_reducible (first | refine thenM_exit ?_ | refine blockM_eq ?_ | refine blockM_ne (by decide) ?_))))
      refine blockM_norm ?_
      exact round_end (x' := (s1, k)) (St.Le.refl _) (Sub.le z_su) ⟨w1, i4, b1, tf, ⟨_, G1, rfl, nt, et, by rw [c1]; exact hE1⟩, rfl⟩ (by simp only; omega)
    · obtain ⟨k6, k8, _⟩ := hsome hL0
      ((repeat refine WpM.seq ?_); have z_ex := (And.intro @k2 (And.intro @k7 (And.intro @k6 (And.intro @svBox.eq_1 True.intro)))); refine WpM.regPE [] [(0, _), (38, _), (39, _), (40, _)] (by (refine s_o [(0, _)] rfl rfl rfl z_su rfl q_move z_fp z_ss ?_; refine s_o [(33, _)] rfl rfl rfl z_su rfl q_move z_fp z_ss ?_; refine s_o [(34, _)] rfl rfl rfl z_su rfl q_fieldAddr z_fp z_ss ?_; refine s_o [(35, _)] rfl rfl rfl z_su rfl q_load z_fp z_ss ?_; refine s_o [(3, _)] rfl rfl rfl z_su rfl q_move z_fp z_ss ?_; refine s_o [(36, _), (37, _)] rfl rfl rfl z_su rfl q_lookup z_fp z_ss ?_; refine s_o [(38, _)] rfl rfl rfl z_su rfl q_full z_fp z_ss ?_; refine s_o [] rfl rfl rfl z_su rfl q_move z_fp z_ss ?_; exact wpS_nil ⟨rfl, rfl⟩)) z_su ?_; clear z_ex)
      ((repeat refine WpM.seq ?_); refine WpM.block ?_)
      refine WpM.loop (fun (x : Nat × Sv) fr S => x.1 ≤ L.length ∧ x.2.Wf ∧ s1.Le x.2 ∧ s1.looks L = x.2.looks (L.drop x.1) ∧ (∃ nn G, S = ⟨nn, [], G⟩ ∧ SvF H0 sp x.2 G na nv nr nd nc nl np am nx el) ∧ fr = frOf [(0, .ptr sp 0), (38, .ms (nx l) 1 0 L.length), (39, .d (.int .i64 L.length)), (40, .d (.int .i64 x.1))]) (fun x => L.length - x.1) (0, s1) (St.Le.refl _) (Sub.le z_su) ⟨by omega, w1, Sv.Le.refl _, rfl, ⟨_, G1, rfl, nt, et, by rw [c1]; exact hE1⟩, rfl⟩ ?_
      rintro ⟨i, u⟩ fr S' ⟨hi, uw, ul, ulk, ⟨nn2, G2, rfl, hF2⟩, rfl⟩
      simp only at hi uw ul ulk hF2
      refine WpM.known fun hGk2 => ?_
      have hGk2 : ∀ m k, G2 m = some k → m < nn2 := hGk2
      have ucs : u.cs = t.cs := ul.cs.trans c1
      ((repeat refine WpM.seq ?_); have z_ex := True.intro; refine WpM.regPE [] [(0, _), (38, _), (39, _), (40, _), (41, _)] (by (refine s_o [(39, _), (40, _)] rfl rfl rfl z_su rfl q_full z_fp z_ss ?_; exact wpS_nil ⟨rfl, rfl⟩)) z_su ?_; clear z_ex)
      by_cases hit : i < L.length
      · ((repeat refine WpM.seq ?_); refine WpM.condT (by (simp (maxSteps := 2000000) (disch := omega) [go_sem, -List.map_map, hit])) ?_)
        refine WpM.skip ?_
        ((repeat refine WpM.seq ?_); refine WpM.block ?_)
        obtain ⟨m, hm⟩ : ∃ m, m = L[i] := ⟨_, rfl⟩
        have hmL : m ∈ L := hm ▸ List.getElem_mem _
        have hmc := hLm m hmL
        have hgm : (L.map nlit)[i]? = some (.d (.int .i64 m)) := by simp [hit, hm, nlit]
        have hdr : L.drop i = m :: L.drop (i + 1) := by rw [List.drop_eq_getElem_cons hit, hm]
        rw [hdr, Sv.looks] at ulk
        have hrow : G2 (nx l) = some (.row 1 (L.map nlit)) := by
          obtain ⟨nt2, et2, hE2⟩ := hF2
          have h1 := hE2.at_
          rw [ucs] at h1
          have := (h1.some l (by rw [← hL]; exact hL0)).2.1
          rw [← hL] at this
          exact this
        have g8 := hGk2 _ _ hrow
        have ub : Small u := b1.le ul
        have hlsp := look_spec uw (m := m) (by rw [ucs]; exact hmc)
        have hlk := fun n => look69 H0 sp u ⟨n, [], G2⟩ na nv nr nd nc nl np am nx el hF2 uw ub.n m (by rw [ucs]; exact hmc) (by have := ub.cl m; omega) (by have := ub.cs; omega)
        ((repeat refine WpM.seq ?_); have z_ex := (And.intro @hrow (And.intro @hgm (And.intro @hit True.intro))); refine WpM.regPE [] [(0, _), (5, _), (38, _), (39, _), (40, _)] (by (refine s_o [(38, _), (40, _)] rfl rfl rfl z_su rfl q_full z_fp z_ss ?_; refine s_o [(42, _)] rfl rfl rfl z_su rfl q_load z_fp z_ss ?_; refine s_o [(43, _)] rfl rfl rfl z_su rfl q_move z_fp z_ss ?_; exact wpS_nil ⟨rfl, rfl⟩)) z_su ?_; clear z_ex)
        cases hlb : (u.look m).1 with
        | true =>
          rw [hlb] at hlk
          rw [hlb, if_pos rfl] at ulk
          ((repeat refine WpM.seq ?_); have z_ex := True.intro; refine WpM.regP [] ?_; intro K hK; refine s_o [(0, _)] rfl rfl rfl z_su rfl q_move z_fp z_ss ?_; refine s_o [(5, _)] rfl rfl rfl z_su rfl q_move z_fp z_ss ?_; refine s_call (callOf_eq rfl rfl rfl (mlk_tmp z_lk (mlk_tmp z_lk mlk_nil))) (hlk _) rfl rfl z_ip ?_; rintro _ z_S ⟨rfl, hS⟩; refine s_put z_fp ?_; refine s_o [(46, _)] rfl rfl rfl z_su rfl q_unOp z_fp z_ss ?_; refine s_endE [(0, _), (5, _), (38, _), (39, _), (40, _), (47, _)] hK z_su ?_; clear hK K; clear z_ex)
          ((repeat refine WpM.seq ?_); refine WpM.condF (by (simp (maxSteps := 2000000) (disch := omega) [go_sem, -List.map_map])) ?_)
          refine WpM.skip ?_
          refine WpM.norm ?_
          intro nn3 G3 hnn3 hG3 hk3
          have hG3 : G3 = z_S.get := hG3
          rw [← hG3] at hS
          clear hG3 hk3 hnn3
          ((repeat refine WpM.seq ?_); have z_ex := (And.intro @wrap_id True.intro); refine WpM.regPE [] [(0, _), (38, _), (39, _), (40, _)] (by (refine s_o [(40, _)] rfl rfl rfl z_su rfl q_full z_fp z_ss ?_; refine s_o [(49, _)] rfl rfl rfl z_su rfl q_move z_fp z_ss ?_; exact wpS_nil ⟨rfl, rfl⟩)) z_su ?_; clear z_ex)
          rcases hlsp with ⟨_, j2, j3, _, _⟩ | ⟨j1, _⟩
          · exact round_end (x' := (i + 1, (u.look m).2)) (St.Le.refl _) (Sub.le z_su) ⟨by simp only; omega, j2, ul.trans j3, ulk, ⟨_, G3, rfl, hS⟩, rfl⟩ (by simp only; omega)
          · rw [j1] at hlb; cases hlb
        | false =>
          rw [hlb] at hlk
          rw [hlb, if_neg (by simp)] at ulk
          rw [hround, ulk] at tf
          simp only [Option.some.injEq] at tf
          ((repeat refine WpM.seq ?_); have z_ex := True.intro; refine WpM.regP [] ?_; intro K hK; refine s_o [(0, _)] rfl rfl rfl z_su rfl q_move z_fp z_ss ?_; refine s_o [(5, _)] rfl rfl rfl z_su rfl q_move z_fp z_ss ?_; refine s_call (callOf_eq rfl rfl rfl (mlk_tmp z_lk (mlk_tmp z_lk mlk_nil))) (hlk _) rfl rfl z_ip ?_; rintro _ z_S ⟨rfl, hS⟩; refine s_put z_fp ?_; refine s_o [(46, _)] rfl rfl rfl z_su rfl q_unOp z_fp z_ss ?_; refine s_endE [(0, _), (5, _), (38, _), (39, _), (40, _), (47, _)] hK z_su ?_; clear hK K; clear z_ex)
          ((repeat refine WpM.seq ?_); refine WpM.condT (by (simp (maxSteps := 2000000) (disch := omega) [go_sem, -List.map_map])) ?_)
          refine WpM.norm ?_
          intro nn3 G3 hnn3 hG3 hk3
          have hG3 : G3 = z_S.get := hG3
          rw [← hG3] at hS
          clear hG3 hk3 hnn3
          ((repeat refine WpM.seq ?_); have z_ex := True.intro; refine WpM.regPE [] [(2, _)] (by (refine s_o [(5, _)] rfl rfl rfl z_su rfl q_move z_fp z_ss ?_; refine s_o [(48, _)] rfl rfl rfl z_su rfl q_move z_fp z_ss ?_; exact wpS_nil ⟨rfl, rfl⟩)) z_su ?_; clear z_ex)
          refine WpM.ret ?_
          exact ⟨.inr rfl, Upd.done ⟨.d (.int .i64 m), (by (simp (maxSteps := 2000000) (disch := omega) [go_sem, -List.map_map, resV, resVs, resV1])), by rw [← tf]; rfl, by rw [← tf]; exact hS⟩⟩
      · ((repeat refine WpM.seq ?_); refine WpM.condF (by (simp (maxSteps := 2000000) (disch := omega) [go_sem, -List.map_map, hit])) ?_)
        (refine WpM.exit ?_; (repeat (with_reducible (first | refine thenM_exit ?_ | refine blockM_eq ?_ | refine blockM_ne (by decide) ?_))))
        obtain rfl : i = L.length := by omega
        rw [List.drop_length, Sv.looks] at ulk
        rw [hround, ulk] at tf hrs
        obtain ⟨i1, i2, i3, i4⟩ := hrs
        refine blockM_norm ?_
        exact round_end (x' := (u, k)) (St.Le.refl _) (Sub.le z_su) ⟨uw, i4, b1.le ul, tf, ⟨_, G2, rfl, hF2⟩, rfl⟩ (by simp only; omega)
  · rw [if_neg hd] at tf
    ((repeat refine WpM.seq ?_); refine WpM.condF (by (simp (maxSteps := 2000000) (disch := omega) [go_sem, -List.map_map, hd])) ?_)
    (refine WpM.exit ?_; (repeat (with_reducible (first | refine thenM_exit ?_ | refine blockM_eq ?_ | refine blockM_ne (by decide) ?_))))
    injection tf with tf
    ((repeat refine WpM.seq ?_); have z_ex := True.intro; refine WpM.regPE [] [(2, _)] (by (refine s_o [] rfl rfl rfl z_su rfl q_move z_fp z_ss ?_; exact wpS_nil ⟨rfl, rfl⟩)) z_su ?_; clear z_ex)
    refine WpM.ret ?_
    exact ⟨.inr rfl, Upd.done ⟨.d (.int .i64 (-1)), (by (simp (maxSteps := 2000000) (disch := omega) [go_sem, -List.map_map, resV, resVs, resV1])), by rw [← tf]; rfl, by rw [← tf]; exact ⟨nt, et, hE⟩⟩⟩
set_option maxHeartbeats 8000000 in
theorem begin53 (H0 : Nat → Option Blk) (sp : Nat) (s : Sv) (S : St) (na nv nr nd nc nl np : Nat) (am : D → Option V) (nx : Int → Nat) (el : List V) (h : SvF H0 sp s S.get na nv nr nd nc nl np am nx el) (hw : s.Wf) (hd0 : s.dn = 0) (hb : Small s) :
    CallM Try.prog 53 [.ptr sp 0] S fun r S' => r = .d (.int .i64 (wI s.begin.2)) ∧ SvF H0 sp s.begin.1 S'.get na nv nr nd nc nl np am nx el := by
  refine CallM.start (n := 20) Try.func53 rfl rfl (by simp) (by simp only [argL, Nat.reduceAdd] <;> rfl) ?_
  intro hH
  obtain ⟨H, hHe⟩ : ∃ H, H = S.get := ⟨_, rfl⟩
  obtain ⟨n0, hne⟩ : ∃ n0, n0 = S.next := ⟨_, rfl⟩
  rw [← hHe, ← hne] at hH ⊢
  rw [← hHe] at h
  have hbeg : s.begin = match s.looks (List.range s.cs.length) with
    | (s', some m) => (s', some m)
    | (s', none) => s'.follow := rfl
  have hls := looks_spec (List.range s.cs.length) hw (by simp)
  obtain ⟨L, hL⟩ : ∃ L, L = List.range s.cs.length := ⟨_, rfl⟩
  have hLl : L.length = s.cs.length := by rw [hL]; simp
  have hLm : ∀ i (hi : i < L.length), L[i] = i := fun i hi => by simp [hL]
  rw [← hL] at hbeg hls
  have hall : ∀ m, m < s.cs.length → m ∈ L := fun m hm => by rw [hL]; simpa using hm
  clear hL
  have k1 : ∃ nt, H sp = some (svBox s na nv nr nd nc nt nl np) := by obtain ⟨nt, et, hE⟩ := h; exact ⟨nt, hE.box⟩
  obtain ⟨nt0, k1⟩ := k1
  have g1 := hH _ _ k1
  ((repeat refine WpM.seq ?_); have z_ex := True.intro; refine WpM.regPE [] [(0, _)] (by (refine s_o [] rfl rfl rfl z_su rfl q_move z_fp z_ss ?_; exact wpS_nil ⟨rfl, rfl⟩)) z_su ?_; clear z_ex)
  ((repeat refine WpM.seq ?_); have z_ex := (And.intro @k1 (And.intro @svBox.eq_1 True.intro)); refine WpM.regPE [] [(0, _), (8, _), (9, _)] (by (refine s_o [(0, _)] rfl rfl rfl z_su rfl q_move z_fp z_ss ?_; refine s_o [(4, _)] rfl rfl rfl z_su rfl q_move z_fp z_ss ?_; refine s_o [(5, _)] rfl rfl rfl z_su rfl q_fieldAddr z_fp z_ss ?_; refine s_o [(6, _)] rfl rfl rfl z_su rfl q_load z_fp z_ss ?_; refine s_o [(7, _)] rfl rfl rfl z_su rfl q_full z_fp z_ss ?_; refine s_o [] rfl rfl rfl z_su rfl q_move z_fp z_ss ?_; exact wpS_nil ⟨rfl, rfl⟩)) z_su ?_; clear z_ex)
  ((repeat refine WpM.seq ?_); refine WpM.block ?_)
  refine WpM.loop (fun (x : Nat × Sv) fr S => x.1 ≤ L.length ∧ x.2.Wf ∧ s.Le x.2 ∧ s.looks L = x.2.looks (L.drop x.1) ∧ (∃ nn G, S = ⟨nn, [], G⟩ ∧ SvF H0 sp x.2 G na nv nr nd nc nl np am nx el) ∧ fr = frOf [(0, .ptr sp 0), (8, .d (.int .i64 s.cs.length)), (9, .d (.int .i64 x.1))]) (fun x => L.length - x.1) (0, s) (St.Le.refl _) (Sub.le z_su) ⟨by omega, hw, Sv.Le.refl _, rfl, ⟨_, H, rfl, h⟩, rfl⟩ ?_
  rintro ⟨i, u⟩ fr S' ⟨hi, uw, ul, ulk, ⟨nn2, G2, rfl, hF2⟩, rfl⟩
  simp only at hi uw ul ulk hF2
  ((repeat refine WpM.seq ?_); have z_ex := True.intro; refine WpM.regPE [] [(0, _), (8, _), (9, _), (10, _)] (by (refine s_o [(8, _), (9, _)] rfl rfl rfl z_su rfl q_full z_fp z_ss ?_; exact wpS_nil ⟨rfl, rfl⟩)) z_su ?_; clear z_ex)
  by_cases hit : i < s.cs.length
  · ((repeat refine WpM.seq ?_); refine WpM.condT (by (simp (maxSteps := 2000000) (disch := omega) [go_sem, -List.map_map, hit])) ?_)
    refine WpM.skip ?_
    ((repeat refine WpM.seq ?_); refine WpM.block ?_)
    have hitL : i < L.length := by omega
    have hdr : L.drop i = i :: L.drop (i + 1) := by rw [List.drop_eq_getElem_cons hitL, hLm i hitL]
    rw [hdr, Sv.looks] at ulk
    have ub : Small u := hb.le ul
    have hic : i < u.cs.length := by rw [ul.cs]; exact hit
    have hlsp := look_spec uw (m := i) hic
    have hlk := fun n => look69 H0 sp u ⟨n, [], G2⟩ na nv nr nd nc nl np am nx el hF2 uw ub.n i hic (by have := ub.cl i; omega) (by have := ub.cs; omega)
    ((repeat refine WpM.seq ?_); have z_ex := True.intro; refine WpM.regPE [] [(0, _), (3, _), (8, _), (9, _)] (by (refine s_o [(9, _)] rfl rfl rfl z_su rfl q_move z_fp z_ss ?_; refine s_o [(11, _)] rfl rfl rfl z_su rfl q_move z_fp z_ss ?_; exact wpS_nil ⟨rfl, rfl⟩)) z_su ?_; clear z_ex)
    cases hlb : (u.look i).1 with
    | true =>
      rw [hlb] at hlk
      rw [hlb, if_pos rfl] at ulk
      ((repeat refine WpM.seq ?_); have z_ex := True.intro; refine WpM.regP [] ?_; intro K hK; refine s_o [(0, _)] rfl rfl rfl z_su rfl q_move z_fp z_ss ?_; refine s_o [(3, _)] rfl rfl rfl z_su rfl q_move z_fp z_ss ?_; refine s_call (callOf_eq rfl rfl rfl (mlk_tmp z_lk (mlk_tmp z_lk mlk_nil))) (hlk _) rfl rfl z_ip ?_; rintro _ z_S ⟨rfl, hS⟩; refine s_put z_fp ?_; refine s_o [(14, _)] rfl rfl rfl z_su rfl q_unOp z_fp z_ss ?_; refine s_endE [(0, _), (3, _), (8, _), (9, _), (15, _)] hK z_su ?_; clear hK K; clear z_ex)
      ((repeat refine WpM.seq ?_); refine WpM.condF (by (simp (maxSteps := 2000000) (disch := omega) [go_sem, -List.map_map])) ?_)
      refine WpM.skip ?_
      refine WpM.norm ?_
      intro nn3 G3 hnn3 hG3 hk3
      have hG3 : G3 = z_S.get := hG3
      rw [← hG3] at hS
      clear hG3 hk3 hnn3
      have hcs := hb.cs
      ((repeat refine WpM.seq ?_); have z_ex := (And.intro @wrap_id True.intro); refine WpM.regPE [] [(0, _), (8, _), (9, _)] (by (refine s_o [(9, _)] rfl rfl rfl z_su rfl q_full z_fp z_ss ?_; refine s_o [(17, _)] rfl rfl rfl z_su rfl q_move z_fp z_ss ?_; exact wpS_nil ⟨rfl, rfl⟩)) z_su ?_; clear z_ex)
      rcases hlsp with ⟨_, j2, j3, _, _⟩ | ⟨j1, _⟩
      · exact round_end (x' := (i + 1, (u.look i).2)) (St.Le.refl _) (Sub.le z_su) ⟨by simp only; omega, j2, ul.trans j3, ulk, ⟨_, G3, rfl, hS⟩, rfl⟩ (by simp only; omega)
      · rw [j1] at hlb; cases hlb
    | false =>
      rw [hlb] at hlk
      rw [hlb, if_neg (by simp)] at ulk
      rw [ulk] at hbeg
      simp only at hbeg
      ((repeat refine WpM.seq ?_); have z_ex := True.intro; refine WpM.regP [] ?_; intro K hK; refine s_o [(0, _)] rfl rfl rfl z_su rfl q_move z_fp z_ss ?_; refine s_o [(3, _)] rfl rfl rfl z_su rfl q_move z_fp z_ss ?_; refine s_call (callOf_eq rfl rfl rfl (mlk_tmp z_lk (mlk_tmp z_lk mlk_nil))) (hlk _) rfl rfl z_ip ?_; rintro _ z_S ⟨rfl, hS⟩; refine s_put z_fp ?_; refine s_o [(14, _)] rfl rfl rfl z_su rfl q_unOp z_fp z_ss ?_; refine s_endE [(0, _), (3, _), (8, _), (9, _), (15, _)] hK z_su ?_; clear hK K; clear z_ex)
      ((repeat refine WpM.seq ?_); refine WpM.condT (by (simp (maxSteps := 2000000) (disch := omega) [go_sem, -List.map_map])) ?_)
      refine WpM.norm ?_
      intro nn3 G3 hnn3 hG3 hk3
      have hG3 : G3 = z_S.get := hG3
      rw [← hG3] at hS
      clear hG3 hk3 hnn3
      ((repeat refine WpM.seq ?_); have z_ex := True.intro; refine WpM.regPE [] [(2, _)] (by (refine s_o [(3, _)] rfl rfl rfl z_su rfl q_move z_fp z_ss ?_; refine s_o [(16, _)] rfl rfl rfl z_su rfl q_move z_fp z_ss ?_; exact wpS_nil ⟨rfl, rfl⟩)) z_su ?_; clear z_ex)
      refine WpM.ret ?_
      exact ⟨.inr rfl, Upd.done ⟨.d (.int .i64 i), (by (simp (maxSteps := 2000000) (disch := omega) [go_sem, -List.map_map, resV, resVs, resV1])), by rw [hbeg]; rfl, by rw [hbeg]; exact hS⟩⟩
  · ((repeat refine WpM.seq ?_); refine WpM.condF (by (simp (maxSteps := 2000000) (disch := omega) [go_sem, -List.map_map, hit])) ?_)
    (refine WpM.exit ?_; (repeat (with_reducible (first | refine thenM_exit ?_ | refine blockM_eq ?_ | refine blockM_ne (by decide) ?_))))
    obtain rfl : i = L.length := by omega
    rw [List.drop_length, Sv.looks] at ulk
    rw [ulk] at hbeg hls
    simp only at hbeg hls
    obtain ⟨i1, i2, i3, i4⟩ := hls
    have hcur : u.Cur := fun m hm => by
      rw [ul.cs] at hm ⊢
      rw [i3, hd0, List.take_zero]
      exact i4 m (hall m hm) [] (by simp)
    have hf := fun n => follow54 H0 sp u ⟨n, [], G2⟩ na nv nr nd nc nl np am nx el hF2 uw hcur (hb.le ul)
    ((repeat refine WpM.seq ?_); have z_ex := True.intro; refine WpM.regP [] ?_; intro K hK; refine s_o [(0, _)] rfl rfl rfl z_su rfl q_move z_fp z_ss ?_; refine s_call (callOf_eq rfl rfl rfl (mlk_tmp z_lk mlk_nil)) (hf _) rfl rfl z_ip ?_; rintro _ z_S ⟨rfl, hS⟩; refine s_put z_fp ?_; refine s_o [(19, _)] rfl rfl rfl z_su rfl q_move z_fp z_ss ?_; refine s_endE [(2, _)] hK z_su ?_; clear hK K; clear z_ex)
    refine WpM.ret ?_
    exact ⟨.inr rfl, Upd.done ⟨.d (.int .i64 (wI u.follow.2)), (by (simp (maxSteps := 2000000) (disch := omega) [go_sem, -List.map_map, resV, resVs, resV1])), by rw [hbeg], by rw [hbeg]; exact hS⟩⟩
end Go.Proofs.Ytafeehlpmdligaa
