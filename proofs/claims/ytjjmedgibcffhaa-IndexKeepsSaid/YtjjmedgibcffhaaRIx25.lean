/- assizeref05.Build. -/
import Derived.Test.YtjjmedgibcffhaaROp2
import Derived.Test.YtjjmedgibcffhaaRIx16
import Derived.Test.YtjjmedgibcffhaaRIx14
namespace Go.Proofs.Ytjjmedgibcffhaa
open Go.RowKit M
set_option linter.unusedSimpArgs false
set_option linter.unusedVariables false
theorem enter50_in {b : Bk} {n : Nat} (hn : n ≤ 1000000) (hw : b.Wf n) (c : CallD) (hk1 : 1 ≤ c.kind) (hk8 : c.kind ≤ 8) (who : Int) (hwho : 0 ≤ who) (res : Except Int Bk) (hres : enterB b c who = res) {L : Nat} {O : Nat → Prop} {G : Nat → Option Blk} {nx : Nat} (hAt : BookAt G L b O) (hO : ∀ m, O m → m < nx)
    (nn : Nat) (h2 : nx ≤ nn) :
    CallM Try.prog 50 [.ptr L 0, .d (.agg [.int .i64 c.kind, .str c.key, .int .i64 c.arg, .bool c.got, .sl (c.vals.map (D.int .i64))]), .d (.int .i64 who)] ⟨nn, [], G⟩ fun r S' => EntP BookAt nx G L O res r S' := by
  have hE := enter50 b n hn hw c hk1 hk8 who hwho L O ⟨nn, [], G⟩ hAt (fun m hm => Nat.lt_of_lt_of_le (hO m hm) h2)
  rw [hres] at hE
  refine hE.mono ?_
  rintro r S' ⟨a1, a2, a3⟩
  refine ⟨Nat.le_trans h2 a1, a2, ?_⟩
  cases res with
  | error e => exact a3
  | ok b' =>
    obtain ⟨b1, O', b2, b3⟩ := a3
    exact ⟨b1, O', fun m hm => ⟨(b2 m hm).1.imp id (fun h => Nat.le_trans h2 h), (b2 m hm).2⟩, b3⟩
set_option maxHeartbeats 8000000 in
theorem build29 (l : List EventD) (hok : SlOk EventOk 40 l) : PureC Try.prog 29 [.d (evs l)] (buildV l) := by
  intro S
  refine CallM.pure' (by rfl) (CallM.start (n := 146) Try.func29 rfl rfl (by simp) (by simp only [argL, Nat.reduceAdd] <;> rfl) ?_)
  intro hH
  obtain ⟨H, hHe⟩ : ∃ H, H = S.get := ⟨_, rfl⟩
  obtain ⟨n0, hne⟩ : ∃ n0, n0 = S.next := ⟨_, rfl⟩
  rw [← hHe, ← hne] at hH ⊢
  have hpairs := pairs21 l hok
  ((repeat refine WpM.seq ?_); have z_ex := True.intro; refine WpM.regPE [] [(0, _), (2, _), (3, _)] (by (refine s_a [] ?_; refine s_a [] ?_; exact wpS_nil ⟨rfl, rfl⟩)) z_su ?_; clear z_ex)
  cases hp : pairsF l with
  | error e =>
    have hpv : pairsV l = .tup [.d (.sl []), .d (.agg [.int .i64 e.1, .int .i64 e.2])] := by rw [pairsV, hp]; rfl
    have hb : buildV l = .tup [.d (.agg [.sl [], .sl []]), .d (.agg [.int .i64 e.1, .int .i64 e.2])] := by rw [buildV, buildF, hp]; rfl
    rw [hpv] at hpairs
    have hne : e.1 ≠ 0 := by
      obtain ⟨_, ps, h2⟩ | ⟨_, h2⟩ | ⟨j, _, h2, _⟩ := flOf_cases l
      · rw [hp] at h2; cases h2
      · rw [hp] at h2; injection h2 with h2; rw [h2]; decide
      · rw [hp] at h2; injection h2 with h2; rw [h2]; show (40 : Int) ≠ 0; decide
    rw [hb]
    ((repeat refine WpM.seq ?_); have z_ex := True.intro; refine WpM.regPE [] [(0, _), (2, _), (3, _), (4, _), (5, _)] (by (refine s_m [(0, _)] ?_; refine s_pure (callOf_eq rfl rfl rfl (mlk_tmp z_lk mlk_nil)) (hpairs) rfl rfl z_ip z_fp ?_; refine s_m [(18, _)] ?_; refine s_x [(16, _)] ?_; refine s_x [(16, _)] ?_; refine s_a [] ?_; refine s_m [(19, _)] ?_; refine s_s [(5, _), (20, _)] ?_; exact wpS_nil ⟨rfl, rfl⟩)) z_su ?_; clear z_ex)
    ((repeat refine WpM.seq ?_); have z_ex := (And.intro @hne True.intro); refine WpM.regPE [] [(0, _), (2, _), (3, _), (4, _), (5, _), (23, _)] (by (refine s_f [(5, _)] ?_; refine s_l [(21, _)] ?_; refine s_q [(22, _)] ?_; exact wpS_nil ⟨rfl, rfl⟩)) z_su ?_; clear z_ex)
    ((repeat refine WpM.seq ?_); refine WpM.condT (by (simp (maxSteps := 2000000) (disch := omega) [go_sem, -List.map_map, hne])) ?_)
    ((repeat refine WpM.seq ?_); have z_ex := True.intro; refine WpM.drwPE [] [(2, _), (3, _)] mixed (by kernel_rfl) (by kernel_rfl) [(1, 2)] (by kernel_rfl) (by (refine d_g [] ?_; refine d_l [(5, _)] ?_; refine d_s [(2, _), (24, _)] ?_; refine d_s [(3, _), (25, _)] ?_; exact d_end z_mt z_sn)) z_su ?_; clear z_ex)
    refine WpM.ret ?_
    refine ⟨.inr rfl, Upd.nilIn n0 0 (cs := [.nil, .nil]) (by (simp (maxSteps := 2000000) (disch := omega) [go_sem, -List.map_map])) (.inl rfl) (Upd.nilIn n0 1 (cs := [.d (.sl []), .nil]) (by (simp (maxSteps := 2000000) (disch := omega) [go_sem, -List.map_map])) (.inl rfl) (Upd.done ⟨_, (by (simp (maxSteps := 2000000) (disch := omega) [go_sem, -List.map_map, resV, resVs, resV1])), rfl, fun m k _ hk => ?_⟩))⟩
    have := hH _ _ hk
    (simp (maxSteps := 2000000) (disch := omega) [go_sem, -List.map_map, hk])
  | ok ps =>
    have hpv : pairsV l = .tup [.d (.sl (ps.map encPair)), .d (.agg [.int .i64 0, .int .i64 0])] := by rw [pairsV, hp]; rfl
    rw [hpv] at hpairs
    ((repeat refine WpM.seq ?_); have z_ex := True.intro; refine WpM.regPE [] [(0, _), (2, _), (3, _), (4, _), (5, _)] (by (refine s_m [(0, _)] ?_; refine s_pure (callOf_eq rfl rfl rfl (mlk_tmp z_lk mlk_nil)) (hpairs) rfl rfl z_ip z_fp ?_; refine s_m [(18, _)] ?_; refine s_x [(16, _)] ?_; refine s_x [(16, _)] ?_; refine s_a [] ?_; refine s_m [(19, _)] ?_; refine s_s [(5, _), (20, _)] ?_; exact wpS_nil ⟨rfl, rfl⟩)) z_su ?_; clear z_ex)
    ((repeat refine WpM.seq ?_); have z_ex := True.intro; refine WpM.regPE [] [(0, _), (2, _), (3, _), (4, _), (5, _), (23, _)] (by (refine s_f [(5, _)] ?_; refine s_l [(21, _)] ?_; refine s_q [(22, _)] ?_; exact wpS_nil ⟨rfl, rfl⟩)) z_su ?_; clear z_ex)
    ((repeat refine WpM.seq ?_); refine WpM.condF (by (simp (maxSteps := 2000000) (disch := omega) [go_sem, -List.map_map])) ?_)
    refine WpM.skip ?_
    have hps : ps.length ≤ 256 := by have := psOf_len l; rw [hp] at this; exact this
    have hl256 : l.length ≤ 256 := listOk_len (pairsF_ok hp).1
    ((repeat refine WpM.seq ?_); have z_ex := True.intro; refine WpM.regPE [] [(0, _), (2, _), (3, _), (4, _), (6, _)] (by (refine s_g [] ?_; refine s_b [(26, _)] ?_; refine s_m [(27, _)] ?_; exact wpS_nil ⟨rfl, rfl⟩)) z_su ?_; clear z_ex)
    refine Upd.wp (Upd.ghostIn (n0 + 13) 0 1 (cs := [.nil, .nil, .nil, .nil, .nil]) (by (simp (maxSteps := 2000000) (disch := omega) [go_sem, -List.map_map])) (.inl rfl) (Upd.ghostIn (n0 + 13) 1 1 (cs := [.ms (n0 + 15) 1 0 0, .nil, .nil, .nil, .nil]) (by (simp (maxSteps := 2000000) (disch := omega) [go_sem, -List.map_map])) (.inl rfl) (Upd.ghostIn (n0 + 13) 2 1 (cs := [.ms (n0 + 15) 1 0 0, .ms (n0 + 16) 1 0 0, .nil, .nil, .nil]) (by (simp (maxSteps := 2000000) (disch := omega) [go_sem, -List.map_map])) (.inl rfl) (Upd.ghostIn (n0 + 13) 3 1 (cs := [.ms (n0 + 15) 1 0 0, .ms (n0 + 16) 1 0 0, .ms (n0 + 17) 1 0 0, .nil, .nil]) (by (simp (maxSteps := 2000000) (disch := omega) [go_sem, -List.map_map])) (.inl rfl) (Upd.ghostIn (n0 + 13) 4 1 (cs := [.ms (n0 + 15) 1 0 0, .ms (n0 + 16) 1 0 0, .ms (n0 + 17) 1 0 0, .ms (n0 + 18) 1 0 0, .nil]) (by (simp (maxSteps := 2000000) (disch := omega) [go_sem, -List.map_map])) (.inl rfl) (Upd.done ?_))))))
    refine WpM.less (St.Le.refl _) (Sub.le (l' := [(0, .d (evs l)), (2, .ptr n0 0), (3, .ptr (n0 + 1) 0), (4, .d (.sl (ps.map encPair))), (6, .ptr (n0 + 13) 0)]) z_su) ?_
    refine WpM.norm ?_
    intro nx G hnx hG hk
    have hnx : nx = n0 + 20 := hnx
    obtain ⟨L, hL⟩ : ∃ L, L = n0 + 13 := ⟨_, rfl⟩
    have gL : BookAt G L Bk.empty (fun m => n0 + 13 ≤ m ∧ m < n0 + 20) := by
      rw [hG, hL]
      exact book_new (k1 := n0 + 15) (k2 := n0 + 16) (k3 := n0 + 17) (k4 := n0 + 18) (k5 := n0 + 19) (by (simp (maxSteps := 2000000) (disch := omega) [go_sem, -List.map_map])) (by (simp (maxSteps := 2000000) (disch := omega) [go_sem, -List.map_map])) (by (simp (maxSteps := 2000000) (disch := omega) [go_sem, -List.map_map])) (by (simp (maxSteps := 2000000) (disch := omega) [go_sem, -List.map_map])) (by (simp (maxSteps := 2000000) (disch := omega) [go_sem, -List.map_map])) (by (simp (maxSteps := 2000000) (disch := omega) [go_sem, -List.map_map])) (by omega) (by omega)
    have g2 : G n0 = some (.box [.nil, .nil]) := by rw [hG]; (simp (maxSteps := 2000000) (disch := omega) [go_sem, -List.map_map])
    have g3 : G (n0 + 1) = some (.box [.d (.int .i64 0), .d (.int .i64 0)]) := by rw [hG]; (simp (maxSteps := 2000000) (disch := omega) [go_sem, -List.map_map])
    have gH : ∀ m k, H m = some k → G m = some k := fun m k hk => by
      have := hH m k hk
      rw [hG]
      (simp (maxSteps := 2000000) (disch := omega) [go_sem, -List.map_map, hk])
    rw [← hL]
    clear hG hk
    subst hnx
    ((repeat refine WpM.seq ?_); have z_ex := True.intro; refine WpM.regPE [] [(0, _), (2, _), (3, _), (4, _), (6, _), (7, _)] (by (refine s_a [] ?_; exact wpS_nil ⟨rfl, rfl⟩)) z_su ?_; clear z_ex)
    refine Upd.wp (Upd.ghostIn (n0 + 20) 1 5 (cs := [.nil, .nil]) (by (simp (maxSteps := 2000000) (disch := omega) [go_sem, -List.map_map])) (.inl rfl) (Upd.done ?_))
    refine WpM.less (St.Le.refl _) (Sub.le (l' := [(0, .d (evs l)), (2, .ptr n0 0), (3, .ptr (n0 + 1) 0), (4, .d (.sl (ps.map encPair))), (6, .ptr L 0), (7, .ptr (n0 + 20) 0)]) z_su) ?_
    refine WpM.norm ?_
    intro nx1 G1 hnx1 hG1 hk1
    have hnx1 : nx1 = n0 + 22 := hnx1
    have hI : BInv BookAt H n0 L (n0 + 20) (n0 + 21) [] Bk.empty (fun m => n0 + 13 ≤ m ∧ m < n0 + 20) G1 nx1 := by
      refine ⟨by rw [hG1]; (simp (maxSteps := 2000000) (disch := omega) [go_sem, -List.map_map, g2]), by rw [hG1]; (simp (maxSteps := 2000000) (disch := omega) [go_sem, -List.map_map, g3]), by rw [hG1]; (simp (maxSteps := 2000000) (disch := omega) [go_sem, -List.map_map]), by rw [hG1]; (simp (maxSteps := 2000000) (disch := omega) [go_sem, -List.map_map]), gL.same fun m k ho hk => ?_, fun m hm => by omega, by omega, by omega, by omega, by omega, fun m k hk => ?_⟩
      · rw [hG1]
        (simp (maxSteps := 2000000) (disch := omega) [go_sem, -List.map_map, hk])
      · have h9 := hH m k hk
        have h8 := gH m k hk
        rw [hG1]
        (simp (maxSteps := 2000000) (disch := omega) [go_sem, -List.map_map, h8])
    clear hG1 hk1 g2 g3 gH gL hL
    obtain ⟨nh, hnh⟩ : ∃ nh, nh = n0 + 20 := ⟨_, rfl⟩
    obtain ⟨nr, hnr⟩ : ∃ nr, nr = n0 + 21 := ⟨_, rfl⟩
    rw [← hnr, ← hnh] at hI
    rw [← hnh]
    clear hnh hnr
    ((repeat refine WpM.seq ?_); have z_ex := True.intro; refine WpM.regPE [] [(0, _), (2, _), (3, _), (4, _), (6, _), (7, _), (8, _)] (by (refine s_m [] ?_; exact wpS_nil ⟨rfl, rfl⟩)) z_su ?_; clear z_ex)
    ((repeat refine WpM.seq ?_); refine WpM.block ?_)
    refine WpM.loop (fun (i : Nat) fr S => i ≤ ps.length ∧ ∃ nx G b ts O nr, S = ⟨nx, [], G⟩ ∧ buildSt l ps i = .ok (b, ts) ∧ BInv BookAt H n0 L nh nr ts b O G nx ∧ fr = frOf [(0, .d (evs l)), (2, .ptr n0 0), (3, .ptr (n0 + 1) 0), (4, .d (.sl (ps.map encPair))), (6, .ptr L 0), (7, .ptr nh 0), (8, .d (.int .i64 i))]) (fun i => ps.length - i) 0 (St.Le.refl _) (Sub.le z_su) ⟨by omega, _, G1, Bk.empty, [], _, nr, rfl, rfl, hI.same BookAt.same hH (by omega) (fun _ _ _ h => h), rfl⟩ ?_
    clear hI
    rintro i fr S' ⟨hi, nx, G, b, ts, O, nr, rfl, hst, hI, rfl⟩
    refine WpM.known fun hGk => ?_
    have hGk : ∀ m k, G m = some k → m < nx := hGk
    have k2 := hI.r2
    have k3 := hI.r3
    have l1 := hI.l1
    ((repeat refine WpM.seq ?_); have z_ex := True.intro; refine WpM.regPE [] [(0, _), (2, _), (3, _), (4, _), (6, _), (7, _), (8, _), (31, _)] (by (refine s_m [(8, _)] ?_; refine s_m [(4, _)] ?_; refine s_q [(29, _)] ?_; refine s_q [(28, _), (30, _)] ?_; exact wpS_nil ⟨rfl, rfl⟩)) z_su ?_; clear z_ex)
    by_cases hit : i < ps.length
    · ((repeat refine WpM.seq ?_); refine WpM.condT (by (simp (maxSteps := 2000000) (disch := omega) [go_sem, -List.map_map, hit])) ?_)
      refine WpM.skip ?_
      ((repeat refine WpM.seq ?_); refine WpM.block ?_)
      obtain ⟨p, hpe⟩ : ∃ p, p = ps[i] := ⟨_, rfl⟩
      have hget : (ps.map encPair)[i]? = some (encPair p) := by simp [hit, hpe]
      have hpo := pair_ok hp hit
      rw [← hpe] at hpo
      have bad : ∀ e, buildStep l i p b ts = .error e → buildV l = .tup [.d (.agg [.sl [], .sl []]), .d (.agg [.int .i64 e.1, .int .i64 e.2])] := fun e he => by
        rw [buildV, buildF_bad hp hit hst (by rw [← hpe]; exact he)]
        rfl
      obtain ⟨hw, htl, h32⟩ := buildSt_wf hp (Nat.le_of_lt hit) hst
      ((repeat refine WpM.seq ?_); have z_ex := (And.intro @hget (And.intro @hit (And.intro @encPair.eq_1 True.intro))); refine WpM.regPE [] [(0, _), (2, _), (3, _), (4, _), (6, _), (7, _), (8, _), (9, _)] (by (refine s_m [(4, _)] ?_; refine s_m [(8, _)] ?_; refine s_q [(34, _), (35, _)] ?_; refine s_f [(36, _)] ?_; refine s_l [(37, _)] ?_; refine s_m [(38, _)] ?_; exact wpS_nil ⟨rfl, rfl⟩)) z_su ?_; clear z_ex)
      by_cases h32' : i = 32
      · rw [bad (2, p.from_) (by rw [buildStep, if_pos h32'])]
        have h32i : (32 : Int) ≤ i := by omega
        ((repeat refine WpM.seq ?_); have z_ex := (And.intro @h32i True.intro); refine WpM.regPE [] [(0, _), (2, _), (3, _), (4, _), (6, _), (7, _), (8, _), (9, _), (40, _)] (by (refine s_m [(8, _)] ?_; refine s_q [(39, _)] ?_; exact wpS_nil ⟨rfl, rfl⟩)) z_su ?_; clear z_ex)
        ((repeat refine WpM.seq ?_); refine WpM.condT (by (simp (maxSteps := 2000000) (disch := omega) [go_sem, -List.map_map, h32i])) ?_)
        ((repeat refine WpM.seq ?_); have z_ex := (And.intro @k2 (And.intro @k3 True.intro)); refine WpM.regPE [] [(2, _), (3, _)] (by (refine s_g [] ?_; refine s_m [(9, _)] ?_; refine s_g [(42, _)] ?_; refine s_s [(2, _), (41, _)] ?_; refine s_s [(3, _), (43, _)] ?_; exact wpS_nil ⟨rfl, rfl⟩)) z_su ?_; clear z_ex)
        refine WpM.ret ?_
        refine ⟨.inr rfl, Upd.nilIn n0 0 (cs := [.nil, .nil]) (by (simp (maxSteps := 2000000) (disch := omega) [go_sem, -List.map_map])) (.inl rfl) (Upd.nilIn n0 1 (cs := [.d (.sl []), .nil]) (by (simp (maxSteps := 2000000) (disch := omega) [go_sem, -List.map_map])) (.inl rfl) (Upd.done ⟨_, (by (simp (maxSteps := 2000000) (disch := omega) [go_sem, -List.map_map, resV, resVs, resV1])), rfl, fun m k _ hk => ?_⟩))⟩
        have h9 := hH _ _ hk
        have h8 := hI.old m k hk
        (simp (maxSteps := 2000000) (disch := omega) [go_sem, -List.map_map, h8])
      · have h32i : (i : Int) < 32 := by omega
        have h32j : ¬ (32 : Int) ≤ i := by omega
        ((repeat refine WpM.seq ?_); have z_ex := (And.intro @h32i (And.intro @h32j True.intro)); refine WpM.regPE [] [(0, _), (2, _), (3, _), (4, _), (6, _), (7, _), (8, _), (9, _), (40, _)] (by (refine s_m [(8, _)] ?_; refine s_q [(39, _)] ?_; exact wpS_nil ⟨rfl, rfl⟩)) z_su ?_; clear z_ex)
        ((repeat refine WpM.seq ?_); refine WpM.condF (by (simp (maxSteps := 2000000) (disch := omega) [go_sem, -List.map_map, h32i, h32j])) ?_)
        refine WpM.skip ?_
        obtain ⟨e, hee⟩ : ∃ e, e = ev l p.from_ := ⟨_, rfl⟩
        have hfl := hpo.frm
        have hgete : (l.map encEvent)[p.from_]? = some (encEvent e) := by rw [hee, ev_eq hfl]; simp [hfl]
        ((repeat refine WpM.seq ?_); have z_ex := (And.intro @evs.eq_1 (And.intro @hgete (And.intro @hfl (And.intro @encEvent.eq_1 True.intro)))); refine WpM.regPE [] [(0, _), (2, _), (3, _), (4, _), (6, _), (7, _), (8, _), (9, _), (10, _)] (by (refine s_m [(0, _)] ?_; refine s_m [(9, _)] ?_; refine s_q [(44, _), (45, _)] ?_; refine s_f [(46, _)] ?_; refine s_l [(47, _)] ?_; refine s_m [(48, _)] ?_; exact wpS_nil ⟨rfl, rfl⟩)) z_su ?_; clear z_ex)
        ((repeat refine WpM.seq ?_); have z_ex := True.intro; refine WpM.regPE [] [(0, _), (2, _), (3, _), (4, _), (6, _), (7, _), (8, _), (9, _), (10, _), (11, _)] (by (refine s_m [] ?_; exact wpS_nil ⟨rfl, rfl⟩)) z_su ?_; clear z_ex)
        have hcok := (eventOk_spec hpo.fok).2.2.2
        have h16 := (eventOk_spec hpo.fok).2.2.1
        rw [← hee] at hcok h16
        ((repeat refine WpM.seq ?_); refine WpM.block ?_)
        refine WpM.loop (fun (k : Nat) fr S => k ≤ e.calls.length ∧ ∃ nx G b3 O, S = ⟨nx, [], G⟩ ∧ entersE b (e.calls.take k) p.from_ = .ok b3 ∧ BInv BookAt H n0 L nh nr ts b3 O G nx ∧ fr = frOf [(0, .d (evs l)), (2, .ptr n0 0), (3, .ptr (n0 + 1) 0), (4, .d (.sl (ps.map encPair))), (6, .ptr L 0), (7, .ptr nh 0), (8, .d (.int .i64 i)), (9, .d (.int .i64 p.from_)), (10, .d (.sl (e.calls.map encCall))), (11, .d (.int .i64 k))]) (fun k => e.calls.length - k) 0 (St.Le.refl _) (Sub.le z_su) ⟨by omega, _, G, b, O, rfl, by simp [entersE], hI.same BookAt.same hH (by omega) (fun _ _ _ h => h), rfl⟩ ?_
        clear hI hGk l1 k2 k3 
        rintro k fr S' ⟨hk, nx3, G, b3, O, rfl, hent, hI, rfl⟩
        refine WpM.known fun hGk => ?_
        have hGk : ∀ m k, G m = some k → m < nx3 := hGk
        ((repeat refine WpM.seq ?_); have z_ex := True.intro; refine WpM.regPE [] [(0, _), (2, _), (3, _), (4, _), (6, _), (7, _), (8, _), (9, _), (10, _), (11, _), (52, _)] (by (refine s_m [(11, _)] ?_; refine s_m [(10, _)] ?_; refine s_q [(50, _)] ?_; refine s_q [(49, _), (51, _)] ?_; exact wpS_nil ⟨rfl, rfl⟩)) z_su ?_; clear z_ex)
        by_cases hkt : k < e.calls.length
        · ((repeat refine WpM.seq ?_); refine WpM.condT (by (simp (maxSteps := 2000000) (disch := omega) [go_sem, -List.map_map, hkt])) ?_)
          refine WpM.skip ?_
          ((repeat refine WpM.seq ?_); refine WpM.block ?_)
          obtain ⟨c, hc⟩ : ∃ c, c = e.calls[k] := ⟨_, rfl⟩
          have hgetc : (e.calls.map encCall)[k]? = some (encCall c) := by simp [hkt, hc]
          obtain ⟨hk1, hk8⟩ := callOk_kind (hcok c (hc ▸ List.getElem_mem _))
          have hnext := entersE_take e.calls b p.from_ k hkt b3 hent
          rw [← hc] at hnext
          have hwf3 := entersE_wf _ hw hent
          have hwn : 16 * i + (e.calls.take k).length ≤ 1000000 := by simp; omega
          cases he : enterB b3 c p.from_ with
          | error er =>
            rw [he] at hnext
            have hbv := bad (er, p.from_) (by rw [buildStep, if_neg h32', ← hee, entersE_stop e.calls b p.from_ (k + 1) er hnext])
            rw [hbv]
            ((repeat refine WpM.seq ?_); have z_ex := (And.intro @hgetc (And.intro @hkt (And.intro @encCall.eq_1 True.intro))); refine WpM.regP [] ?_; intro K hK; refine s_m [(6, _)] ?_; refine s_m [(10, _)] ?_; refine s_m [(11, _)] ?_; refine s_q [(56, _), (57, _)] ?_; refine s_l [(58, _)] ?_; refine s_m [(9, _)] ?_; refine s_call (callOf_eq rfl rfl rfl (mlk_tmp z_lk (mlk_tmp z_lk (mlk_tmp z_lk mlk_nil)))) (enter50_in hwn hwf3 c hk1 hk8 p.from_ (by omega) _ he hI.led (fun m hm => (hI.oo m hm).2) _ (by omega)) rfl rfl z_ip ?_; rintro _ z_S ⟨hnx, old, rfl, hne2⟩; refine s_put z_fp ?_; refine s_m [(61, _)] ?_; refine s_endE [(0, _), (2, _), (3, _), (4, _), (6, _), (7, _), (8, _), (9, _), (10, _), (11, _), (12, _)] hK z_su ?_; clear hK K; clear z_ex)
            refine WpM.norm ?_
            intro nx4 G4 hnx4 hG4 hk4
            have hnx4 : nx4 = z_S.next + 1 := hnx4
            have hG4 : G4 = z_S.get := hG4
            have o2 : ¬ O n0 := fun h => by have := (hI.oo _ h).1; omega
            have o3 : ¬ O (n0 + 1) := fun h => by have := (hI.oo _ h).1; omega
            have k2 : G4 n0 = some (.box [.nil, .nil]) := by rw [hG4]; exact old n0 _ o2 hI.r2
            have k3 : G4 (n0 + 1) = some (.box [.d (.int .i64 0), .d (.int .i64 0)]) := by rw [hG4]; exact old _ _ o3 hI.r3
            have kH : ∀ m k, H m = some k → G4 m = some k := fun m k hk => by rw [hG4]; exact old m k (fun h => by have := (hI.oo _ h).1; have := hH m k hk; omega) (hI.old m k hk)
            clear old hG4 hk4 hGk
            ((repeat refine WpM.seq ?_); have z_ex := (And.intro @hne2 True.intro); refine WpM.regPE [] [(0, _), (2, _), (3, _), (4, _), (6, _), (7, _), (8, _), (9, _), (10, _), (11, _), (12, _), (63, _)] (by (refine s_m [(12, _)] ?_; refine s_q [(62, _)] ?_; exact wpS_nil ⟨rfl, rfl⟩)) z_su ?_; clear z_ex)
            ((repeat refine WpM.seq ?_); refine WpM.condT (by (simp (maxSteps := 2000000) (disch := omega) [go_sem, -List.map_map, hne2])) ?_)
            ((repeat refine WpM.seq ?_); have z_ex := (And.intro @k2 (And.intro @k3 True.intro)); refine WpM.regPE [] [(2, _), (3, _)] (by (refine s_g [] ?_; refine s_m [(12, _)] ?_; refine s_m [(9, _)] ?_; refine s_g [(65, _), (66, _)] ?_; refine s_s [(2, _), (64, _)] ?_; refine s_s [(3, _), (67, _)] ?_; exact wpS_nil ⟨rfl, rfl⟩)) z_su ?_; clear z_ex)
            refine WpM.ret ?_
            refine ⟨.inr rfl, Upd.nilIn n0 0 (cs := [.nil, .nil]) (by (simp (maxSteps := 2000000) (disch := omega) [go_sem, -List.map_map])) (.inl rfl) (Upd.nilIn n0 1 (cs := [.d (.sl []), .nil]) (by (simp (maxSteps := 2000000) (disch := omega) [go_sem, -List.map_map])) (.inl rfl) (Upd.done ⟨_, (by (simp (maxSteps := 2000000) (disch := omega) [go_sem, -List.map_map, resV, resVs, resV1])), rfl, fun m k _ hk => ?_⟩))⟩
            have h9 := hH _ _ hk
            have h8 := kH m k hk
            (simp (maxSteps := 2000000) (disch := omega) [go_sem, -List.map_map, h8])
          | ok b4 =>
            rw [he] at hnext
            ((repeat refine WpM.seq ?_); have z_ex := (And.intro @hgetc (And.intro @hkt (And.intro @encCall.eq_1 True.intro))); refine WpM.regP [] ?_; intro K hK; refine s_m [(6, _)] ?_; refine s_m [(10, _)] ?_; refine s_m [(11, _)] ?_; refine s_q [(56, _), (57, _)] ?_; refine s_l [(58, _)] ?_; refine s_m [(9, _)] ?_; refine s_call (callOf_eq rfl rfl rfl (mlk_tmp z_lk (mlk_tmp z_lk (mlk_tmp z_lk mlk_nil)))) (enter50_in hwn hwf3 c hk1 hk8 p.from_ (by omega) _ he hI.led (fun m hm => (hI.oo m hm).2) _ (by omega)) rfl rfl z_ip ?_; rintro _ z_S ⟨hnx, old, rfl, O4, hO4, hLed4⟩; refine s_put z_fp ?_; refine s_m [(61, _)] ?_; refine s_endE [(0, _), (2, _), (3, _), (4, _), (6, _), (7, _), (8, _), (9, _), (10, _), (11, _), (12, _)] hK z_su ?_; clear hK K; clear z_ex)
            refine WpM.norm ?_
            intro nx4 G4 hnx4 hG4 hk4
            have hnx4 : nx4 = z_S.next + 1 := hnx4
            have hG4 : G4 = z_S.get := hG4
            have hI4 : BInv BookAt H n0 L nh nr ts b4 O4 G4 nx4 := by
              refine hI.enter hH (by omega) (fun m k ho hk => by rw [hG4]; exact old m k ho hk) (fun m hm => ?_) (by rw [hG4]; exact hLed4)
              have := hO4 m hm
              exact ⟨this.1, by omega⟩
            clear old hG4 hk4 hO4 hLed4 hI
            ((repeat refine WpM.seq ?_); have z_ex := True.intro; refine WpM.regPE [] [(0, _), (2, _), (3, _), (4, _), (6, _), (7, _), (8, _), (9, _), (10, _), (11, _), (12, _), (63, _)] (by (refine s_m [(12, _)] ?_; refine s_q [(62, _)] ?_; exact wpS_nil ⟨rfl, rfl⟩)) z_su ?_; clear z_ex)
            ((repeat refine WpM.seq ?_); refine WpM.condF (by (simp (maxSteps := 2000000) (disch := omega) [go_sem, -List.map_map])) ?_)
            refine WpM.skip ?_
            ((repeat refine WpM.seq ?_); have z_ex := (And.intro @wrap_id True.intro); refine WpM.regPE [] [(0, _), (2, _), (3, _), (4, _), (6, _), (7, _), (8, _), (9, _), (10, _), (11, _)] (by (refine s_m [(11, _)] ?_; refine s_q [(53, _)] ?_; refine s_m [(54, _)] ?_; exact wpS_nil ⟨rfl, rfl⟩)) z_su ?_; clear z_ex)
            exact round_end (x' := k + 1) (St.Le.refl _) (Sub.le z_su) ⟨by omega, _, G4, b4, O4, rfl, hnext, hI4.same BookAt.same hH (by omega) (fun _ _ _ h => h), rfl⟩ (by omega)
        · ((repeat refine WpM.seq ?_); refine WpM.condF (by (simp (maxSteps := 2000000) (disch := omega) [go_sem, -List.map_map, hkt])) ?_)
          (refine WpM.exit ?_; (repeat (with_reducible (first | refine thenM_exit ?_ | refine blockM_eq ?_ | refine blockM_ne (by decide) ?_))))
          obtain rfl : k = e.calls.length := by omega
          rw [List.take_length] at hent
          have hkeys := hpo.keys hw (by rw [← hee]; exact hent)
          have hcvs := callsFor_ok hok hpo
          have hcl16 := hpo.calls16
          have hstep : buildStep l i p b ts = .ok (b3, ts ++ [txnOf l p b3]) := by rw [buildStep, if_neg h32', ← hee, hent]
          have hnextst : buildSt l ps (i + 1) = .ok (b3, ts ++ [txnOf l p b3]) := by rw [buildSt_succ hst hit, ← hpe]; exact hstep
          clear bad hstep hcok hst
          obtain ⟨cs, hcs⟩ : ∃ cs, cs = callsFor l p := ⟨_, rfl⟩
          rw [← hcs] at hkeys hcvs hcl16
          refine WpM.seq ?_
          refine wpMid (Mid := fun (fr : Fr) (S' : St) => ∃ nx5, nx3 ≤ nx5 ∧ S' = ⟨nx5, [], G⟩ ∧ FrLe fr (frOf [(0, .d (evs l)), (2, .ptr n0 0), (3, .ptr (n0 + 1) 0), (4, .d (.sl (ps.map encPair))), (6, .ptr L 0), (7, .ptr nh 0), (8, .d (.int .i64 i)), (9, .d (.int .i64 p.from_)), (10, .d (.sl (cs.map encCall)))])) ?_ ?_
          · by_cases hs1 : p.status = 1
            · obtain ⟨t, ht1, ht2, ht3, ht4⟩ := hpo.to_ hs1
              have hcf : cs = (ev l t).calls := by rw [hcs, callsFor, if_pos hs1, ht1]; simp
              obtain ⟨e2, he2⟩ : ∃ e2, e2 = ev l t := ⟨_, rfl⟩
              have hgete2 : (l.map encEvent)[t]? = some (encEvent e2) := by rw [he2, ev_eq ht2]; simp [ht2]
              rw [← he2] at hcf
              subst hcf
              ((repeat refine WpM.seq ?_); have z_ex := (And.intro @hget (And.intro @hit (And.intro @encPair.eq_1 (And.intro @hs1 True.intro)))); refine WpM.regPE [] [(0, _), (2, _), (3, _), (4, _), (6, _), (7, _), (8, _), (9, _), (10, _), (73, _)] (by (refine s_m [(4, _)] ?_; refine s_m [(8, _)] ?_; refine s_q [(68, _), (69, _)] ?_; refine s_f [(70, _)] ?_; refine s_l [(71, _)] ?_; refine s_q [(72, _)] ?_; exact wpS_nil ⟨rfl, rfl⟩)) z_su ?_; clear z_ex)
              ((repeat refine WpM.seq ?_); refine WpM.condT (by (simp (maxSteps := 2000000) (disch := omega) [go_sem, -List.map_map, hs1])) ?_)
              ((repeat refine WpM.seq ?_); have z_ex := (And.intro @hget (And.intro @hit (And.intro @encPair.eq_1 (And.intro @ht1 (And.intro @evs.eq_1 (And.intro @hgete2 (And.intro @ht2 (And.intro @encEvent.eq_1 True.intro)))))))); refine WpM.regPE [] [(0, _), (2, _), (3, _), (4, _), (6, _), (7, _), (8, _), (9, _), (10, _)] (by (refine s_m [(0, _)] ?_; refine s_m [(4, _)] ?_; refine s_m [(8, _)] ?_; refine s_q [(75, _), (76, _)] ?_; refine s_f [(77, _)] ?_; refine s_l [(78, _)] ?_; refine s_q [(74, _), (79, _)] ?_; refine s_f [(80, _)] ?_; refine s_l [(81, _)] ?_; refine s_m [(82, _)] ?_; exact wpS_nil ⟨rfl, rfl⟩)) z_su ?_; clear z_ex)
              exact ⟨_, (by show nx3 ≤ nx3 + _; omega), rfl, Sub.le z_su⟩
            · have hcf : cs = e.calls := by rw [hcs, callsFor, if_neg hs1, hee]
              subst hcf
              ((repeat refine WpM.seq ?_); have z_ex := (And.intro @hget (And.intro @hit (And.intro @encPair.eq_1 (And.intro @hs1 True.intro)))); refine WpM.regPE [] [(0, _), (2, _), (3, _), (4, _), (6, _), (7, _), (8, _), (9, _), (10, _), (73, _)] (by (refine s_m [(4, _)] ?_; refine s_m [(8, _)] ?_; refine s_q [(68, _), (69, _)] ?_; refine s_f [(70, _)] ?_; refine s_l [(71, _)] ?_; refine s_q [(72, _)] ?_; exact wpS_nil ⟨rfl, rfl⟩)) z_su ?_; clear z_ex)
              ((repeat refine WpM.seq ?_); refine WpM.condF (by (simp (maxSteps := 2000000) (disch := omega) [go_sem, -List.map_map, hs1])) ?_)
              refine WpM.skip ?_
              exact ⟨_, (by show nx3 ≤ nx3 + _; omega), rfl, Sub.le z_su⟩
          rintro fr S' ⟨nx5, hnx5, rfl, hfr⟩
          refine WpM.less (St.Le.refl _) hfr ?_
          clear hfr
          ((repeat refine WpM.seq ?_); have z_ex := (And.intro @hget (And.intro @hit (And.intro @encPair.eq_1 (And.intro @evs.eq_1 (And.intro @hgete (And.intro @hfl (And.intro @encEvent.eq_1 True.intro))))))); refine WpM.drwPE [] [(0, _), (2, _), (3, _), (4, _), (6, _), (7, _), (8, _), (10, _), (13, _)] mixed (by kernel_rfl) (by kernel_rfl) [(4, 17), (9, 17), (15, 17)] (by kernel_rfl) (by (refine d_m [(0, _)] ?_; refine d_m [(9, _)] ?_; refine d_q [(83, _), (84, _)] ?_; refine d_f [(85, _)] ?_; refine d_l [(86, _)] ?_; refine d_m [(4, _)] ?_; refine d_m [(8, _)] ?_; refine d_q [(88, _), (89, _)] ?_; refine d_f [(90, _)] ?_; refine d_l [(91, _)] ?_; refine d_m [(9, _)] ?_; refine d_m [(4, _)] ?_; refine d_m [(8, _)] ?_; refine d_q [(94, _), (95, _)] ?_; refine d_f [(96, _)] ?_; refine d_l [(97, _)] ?_; refine d_g [(87, _), (92, _), (93, _), (98, _)] ?_; refine d_a [] ?_; refine d_s [(13, _), (99, _)] ?_; exact d_end z_mt z_sn)) z_su ?_; clear z_ex)
          refine Upd.wp (Upd.ghostIn (nx5 + 17) 4 5 (cs := [.d (.int .i64 e.proc), .d (.int .i64 p.status), .d (.int .i64 p.from_), .d (.int .i64 p.to_), .nil]) (by (simp (maxSteps := 2000000) (disch := omega) [go_sem, -List.map_map])) (.inl (by rfl)) (Upd.done ?_))
          refine WpM.less (le_cut (n0 := nx3) (n' := nx5 + 20) (l' := [(nx5 + 17, some (.box [.d (.int .i64 e.proc), .d (.int .i64 p.status), .d (.int .i64 p.from_), .d (.int .i64 p.to_), .ms (nx5 + 19) 5 0 0])), (nx5 + 19, some (.row 5 []))]) hGk (by (simp (maxSteps := 2000000) (disch := omega) [go_sem, -List.map_map]); omega) (by (simp (maxSteps := 2000000) (disch := omega) [go_sem, -List.map_map])) (by (simp (maxSteps := 2000000) (disch := omega) [go_sem, -List.map_map]))) (Sub.le (l' := [(0, .d (evs l)), (2, .ptr n0 0), (3, .ptr (n0 + 1) 0), (4, .d (.sl (ps.map encPair))), (6, .ptr L 0), (7, .ptr nh 0), (8, .d (.int .i64 i)), (10, .d (.sl (cs.map encCall))), (13, .ptr (nx5 + 17) 0)]) z_su) ?_
          ((repeat refine WpM.seq ?_); have z_ex := True.intro; refine WpM.regPE [] [(0, _), (2, _), (3, _), (4, _), (6, _), (7, _), (8, _), (10, _), (13, _), (14, _)] (by (refine s_m [] ?_; exact wpS_nil ⟨rfl, rfl⟩)) z_su ?_; clear z_ex)
          ((repeat refine WpM.seq ?_); refine WpM.block ?_)
          obtain ⟨nk, nt, nw, ni, nl, ws, r, hN⟩ := hI.led
          have kL := hN.box
          have kK := hN.keys
          have gL : L < nx3 := (hI.oo _ hN.oL).2
          have gK : nk < nx3 := (hI.oo _ hN.ok).2
          have hkl32 := (entersE_wf _ hw hent).keys
          have hst' : ∀ c : CallD, encOp (opOf b3 c) = .agg [.int .i64 c.kind, .int .i64 (((findN b3.keys c.key).getD 0 : Nat) : Int), .int .i64 c.arg, .bool c.got, .sl (c.vals.map (D.int .i64))] := fun c => rfl
          clear hN
          obtain ⟨nt2, hnt2⟩ : ∃ nt2, nt2 = nx5 + 17 := ⟨_, rfl⟩
          rw [← hnt2]
          have hnt3 : nx3 ≤ nt2 := by omega
          refine WpM.loop (fun (k : Nat) fr S => k ≤ cs.length ∧ ∃ nx nr2 ys, nt2 < nr2 ∧ nr2 < nx ∧ ys = ((cs.take k).map fun c => V.d (encOp (opOf b3 c))) ∧ fr = frOf [(0, .d (evs l)), (2, .ptr n0 0), (3, .ptr (n0 + 1) 0), (4, .d (.sl (ps.map encPair))), (6, .ptr L 0), (7, .ptr nh 0), (8, .d (.int .i64 i)), (10, .d (.sl (cs.map encCall))), (13, .ptr nt2 0), (14, .d (.int .i64 k))] ∧ S = ⟨nx, [(nt2, some (.box [.d (.int .i64 e.proc), .d (.int .i64 p.status), .d (.int .i64 p.from_), .d (.int .i64 p.to_), .ms nr2 5 0 ys.length])), (nr2, some (.row 5 ys))], G⟩) (fun k => cs.length - k) 0 (St.Le.refl _) (Sub.le z_su) ⟨by omega, _, nx5 + 19, [], by omega, by show nx5 + 19 < nx5 + _; omega, by simp, rfl, rfl⟩ ?_
          rintro k fr S' ⟨hk, nx6, nr2, ys, hnr, hnx6, hys, rfl, rfl⟩
          have hyl : ys.length = k := by rw [hys]; simp; omega
          ((repeat refine WpM.seq ?_); have z_ex := True.intro; refine WpM.regPE [] [(0, _), (2, _), (3, _), (4, _), (6, _), (7, _), (8, _), (10, _), (13, _), (14, _), (103, _)] (by (refine s_m [(14, _)] ?_; refine s_m [(10, _)] ?_; refine s_q [(101, _)] ?_; refine s_q [(100, _), (102, _)] ?_; exact wpS_nil ⟨rfl, rfl⟩)) z_su ?_; clear z_ex)
          by_cases hkt : k < cs.length
          · ((repeat refine WpM.seq ?_); refine WpM.condT (by (simp (maxSteps := 2000000) (disch := omega) [go_sem, -List.map_map, hkt])) ?_)
            refine WpM.skip ?_
            ((repeat refine WpM.seq ?_); refine WpM.block ?_)
            obtain ⟨c, hc⟩ : ∃ c, c = cs[k] := ⟨_, rfl⟩
            have hgetc : (cs.map encCall)[k]? = some (encCall c) := by simp [hkt, hc]
            obtain ⟨kk, hkk⟩ := hkeys c (hc ▸ List.getElem_mem _)
            have hvl := (hcvs c (hc ▸ List.getElem_mem _)).2.2.2.1
            have hfi : ∀ S : St, S.get nk = some (.row 1 (b3.keys.map fun s => .d (.str s))) → PureS Try.prog 51 [.ms nk 1 0 b3.keys.length, .d (.str c.key)] (.d (.int .i64 kk)) S := fun S h => by
              have := find51m b3.keys c.key (by omega) nk S h
              rw [show findI b3.keys c.key = kk by rw [findI, hkk]] at this
              exact this
            have hys' : ys ++ [V.d (encOp (opOf b3 c))] = (cs.take (k + 1)).map (fun c => V.d (encOp (opOf b3 c))) := by rw [hys, List.take_succ_eq_append_getElem hkt, ← hc]; simp
            rw [hst' c, hkk, Option.getD_some] at hys'
            ((repeat refine WpM.seq ?_); have z_ex := (And.intro @hgetc (And.intro @hkt (And.intro @encCall.eq_1 True.intro))); refine WpM.regPE [] [(0, _), (2, _), (3, _), (4, _), (6, _), (7, _), (8, _), (10, _), (13, _), (14, _), (15, _)] (by (refine s_m [(10, _)] ?_; refine s_m [(14, _)] ?_; refine s_q [(106, _), (107, _)] ?_; refine s_l [(108, _)] ?_; refine s_a [] ?_; refine s_s [(15, _), (109, _)] ?_; exact wpS_nil ⟨rfl, rfl⟩)) z_su ?_; clear z_ex)
            ((repeat refine WpM.seq ?_); have z_ex := (And.intro @kL (And.intro @kK True.intro)); refine WpM.drwPE [128] [(0, _), (2, _), (3, _), (4, _), (6, _), (7, _), (8, _), (10, _), (13, _), (14, _)] mixed (by kernel_rfl) (by kernel_rfl) [(1, 10), (3, 10), (10, 12), (10, 14), (1, 15), (3, 15), (7, 15), (9, 15), (10, 15), (12, 15), (14, 15), (10, 17), (15, 17), (1, 18), (3, 18), (12, 18), (14, 18), (1, 20)] (by kernel_rfl) (by (refine d_f [(13, _)] ?_; refine d_l [(110, _)] ?_; refine d_f [(15, _)] ?_; refine d_l [(112, _)] ?_; refine d_m [(6, _)] ?_; refine d_m [(114, _)] ?_; refine d_f [(115, _)] ?_; refine d_l [(116, _)] ?_; refine d_f [(15, _)] ?_; refine d_l [(118, _)] ?_; refine wpD_on [nk] rfl rfl (callOf_eq rfl rfl rfl (mlk_tmp z_lk (mlk_tmp z_lk mlk_nil))) z_ip rfl (fun S' h => hfi S' (by rw [h nk (by simp)]; simp (disch := omega) [go_sem, kK])) z_fp ?_; refine d_f [(15, _)] ?_; refine d_l [(121, _)] ?_; refine d_f [(15, _)] ?_; refine d_l [(123, _)] ?_; refine d_q [] ?_; refine d_f [(15, _)] ?_; refine d_l [(126, _)] ?_; refine d_q [(125, _), (127, _)] ?_; refine d_g [(113, _), (120, _), (122, _), (124, _), (128, _)] ?_; refine d_q [(129, _)] ?_; refine d_q [(111, _), (130, _)] ?_; refine d_f [(13, _)] ?_; refine d_s [(131, _), (132, _)] ?_; exact d_end z_mt z_sn)) z_su ?_; clear z_ex)
            ((repeat refine WpM.seq ?_); have z_ex := (And.intro @wrap_id True.intro); refine WpM.regPE [] [(0, _), (2, _), (3, _), (4, _), (6, _), (7, _), (8, _), (10, _), (13, _), (14, _)] (by (refine s_m [(14, _)] ?_; refine s_q [(104, _)] ?_; refine s_m [(105, _)] ?_; exact wpS_nil ⟨rfl, rfl⟩)) z_su ?_; clear z_ex)
            exact round_end (x' := k + 1) (le_cut (n0 := nx3) (l' := [(nt2, some (.box [.d (.int .i64 e.proc), .d (.int .i64 p.status), .d (.int .i64 p.from_), .d (.int .i64 p.to_), .ms (nx6 + 31) 5 0 (ys.length + 1)])), (nx6 + 31, some (.row 5 (ys ++ [V.d (.agg [.int .i64 c.kind, .int .i64 kk, .int .i64 c.arg, .bool c.got, .sl (c.vals.map (D.int .i64))])])))]) hGk (by (simp (maxSteps := 2000000) (disch := omega) [go_sem, -List.map_map]); omega) (Nat.le_refl _) (by (simp (maxSteps := 2000000) (disch := omega) [go_sem, -List.map_map]))) (Sub.le z_su) ⟨by omega, nx6 + 37, nx6 + 31, _, by omega, by omega, hys', rfl, by (simp (maxSteps := 2000000) (disch := omega) [go_sem, -List.map_map])⟩ (by omega)
          · ((repeat refine WpM.seq ?_); refine WpM.condF (by (simp (maxSteps := 2000000) (disch := omega) [go_sem, -List.map_map, hkt])) ?_)
            (refine WpM.exit ?_; (repeat (with_reducible (first | refine thenM_exit ?_ | refine blockM_eq ?_ | refine blockM_ne (by decide) ?_))))
            obtain rfl : k = cs.length := by omega
            rw [List.take_length] at hys
            have htx : encTxn (txnOf l p b3) = .agg [.int .i64 e.proc, .int .i64 p.status, .int .i64 p.from_, .int .i64 p.to_, .sl (cs.map fun c => encOp (opOf b3 c))] := by simp [encTxn, txnOf, ← hcs, ← hee, List.map_map, Function.comp_def]
            have k5 := hI.hb
            have k6 := hI.hr
            have hn2 := hI.l1
            have hn4 := hI.l2
            have hts32 : ts.length ≤ 32 := by omega
            have e6 : nh ≠ nr := fun e => by rw [e, k6] at k5; cases k5
            have htk : (ts.map fun t => V.d (encTxn t)).take ts.length = ts.map fun t => V.d (encTxn t) := List.take_of_length_le (by simp)
            refine Upd.wp (Upd.freezeIn nt2 4 (cs := [.d (.int .i64 e.proc), .d (.int .i64 p.status), .d (.int .i64 p.from_), .d (.int .i64 p.to_), .ms nr2 5 0 ys.length]) (xs := ys) (cs.map fun c => encOp (opOf b3 c)) (by (simp (maxSteps := 2000000) (disch := omega) [go_sem, -List.map_map])) (by rfl) (by (simp (maxSteps := 2000000) (disch := omega) [go_sem, -List.map_map])) (by rw [List.drop_zero, List.take_length, hys, List.map_map]; rfl) (by simp [hys]) (Upd.done ?_))
            refine WpM.less (le_cut (n0 := nx3) (n' := nx6 + 4) (l' := [(nt2, some (.box [.d (.int .i64 e.proc), .d (.int .i64 p.status), .d (.int .i64 p.from_), .d (.int .i64 p.to_), .d (.sl (cs.map fun c => encOp (opOf b3 c)))]))]) hGk (by (simp (maxSteps := 2000000) (disch := omega) [go_sem, -List.map_map]); omega) (by (simp (maxSteps := 2000000) (disch := omega) [go_sem, -List.map_map])) (by (simp (maxSteps := 2000000) (disch := omega) [go_sem, -List.map_map]))) (Sub.le (l' := [(0, .d (evs l)), (2, .ptr n0 0), (3, .ptr (n0 + 1) 0), (4, .d (.sl (ps.map encPair))), (6, .ptr L 0), (7, .ptr nh 0), (8, .d (.int .i64 i)), (13, .ptr nt2 0)]) z_su) ?_
            ((repeat refine WpM.seq ?_); have z_ex := (And.intro @k5 (And.intro @k6 (And.intro @htk True.intro))); refine WpM.regPE [] [(0, _), (2, _), (3, _), (4, _), (6, _), (7, _), (8, _)] (by (refine s_f [(7, _)] ?_; refine s_l [(133, _)] ?_; refine s_l [(13, _)] ?_; refine s_q [(135, _)] ?_; refine s_q [(134, _), (136, _)] ?_; refine s_f [(7, _)] ?_; refine s_s [(137, _), (138, _)] ?_; exact wpS_nil ⟨rfl, rfl⟩)) z_su ?_; clear z_ex)
            refine WpM.norm ?_
            intro nx7 G7 hnx7 hG7 hk7
            have hnx7 : nx7 = nx6 + 11 := hnx7
            have hI7 : BInv BookAt H n0 L nh (nx6 + 8) (ts ++ [txnOf l p b3]) b3 O G7 nx7 := by
              refine hI.push BookAt.same hH (by omega) (by omega) (by rw [hG7]; (simp (maxSteps := 2000000) (disch := omega) [go_sem, -List.map_map])) (by rw [hG7, htx]; (simp (maxSteps := 2000000) (disch := omega) [go_sem, -List.map_map])) fun m q hm h1 h2 hq => ?_
              rw [hG7]
              (simp (maxSteps := 2000000) (disch := omega) [go_sem, -List.map_map, hq])
            clear hG7 hk7 k5 k6 hI htx htk hys kL kK
            ((repeat refine WpM.seq ?_); have z_ex := (And.intro @wrap_id True.intro); refine WpM.regPE [] [(0, _), (2, _), (3, _), (4, _), (6, _), (7, _), (8, _)] (by (refine s_m [(8, _)] ?_; refine s_q [(32, _)] ?_; refine s_m [(33, _)] ?_; exact wpS_nil ⟨rfl, rfl⟩)) z_su ?_; clear z_ex)
            exact round_end (x' := i + 1) (St.Le.refl _) (Sub.le z_su) ⟨by omega, _, G7, b3, _, O, nx6 + 8, rfl, hnextst, hI7.same BookAt.same hH (by omega) (fun _ _ _ h => h), rfl⟩ (by omega)
    · ((repeat refine WpM.seq ?_); refine WpM.condF (by (simp (maxSteps := 2000000) (disch := omega) [go_sem, -List.map_map, hit])) ?_)
      (refine WpM.exit ?_; (repeat (with_reducible (first | refine thenM_exit ?_ | refine blockM_eq ?_ | refine blockM_ne (by decide) ?_))))
      obtain rfl : i = ps.length := by omega
      have hbv : buildV l = .tup [.d (.agg [.sl (b.keys.map D.str), .sl (ts.map encTxn)]), .d (.agg [.int .i64 0, .int .i64 0])] := by rw [buildV, buildF_ok hp hst]; rfl
      rw [hbv]
      obtain ⟨nk, nt, nw, ni, nl, ws, r, hN⟩ := hI.led
      have kL := hN.box
      have kk := hN.keys
      have gL : L < nx := (hI.oo _ hN.oL).2
      have gk : nk < nx := (hI.oo _ hN.ok).2
      have k5 := hI.hb
      have k6 := hI.hr
      have hn4 := hI.l2
      have oL := (hI.oo _ hN.oL).1
      have ok1 := (hI.oo _ hN.ok).1
      have e1 : L ≠ nh := fun e => hI.o1 (e ▸ hN.oL)
      have e2 : L ≠ nr := fun e => hI.o2 (e ▸ hN.oL)
      have e3 : nk ≠ nh := fun e => hI.o1 (e ▸ hN.ok)
      have e4 : nk ≠ nr := fun e => hI.o2 (e ▸ hN.ok)
      have e5 : L ≠ nk := hN.box_ne.1
      have e6 : nh ≠ nr := fun e => by rw [e, k6] at k5; cases k5
      clear hN
      refine Upd.wp (Upd.freezeIn L 0 (cs := [.ms nk 1 0 b.keys.length, .ms nt 1 0 b.types.length, .ms nw 1 0 b.wrote.length, .ms ni 1 0 b.incs.length, .ms nl 1 0 b.incs.length]) (xs := b.keys.map fun s => .d (.str s)) (b.keys.map D.str) (by (simp (maxSteps := 2000000) (disch := omega) [go_sem, -List.map_map, kL])) (by rfl) (by (simp (maxSteps := 2000000) (disch := omega) [go_sem, -List.map_map, kk])) (by rw [List.drop_zero, List.take_of_length_le (by simp), List.map_map]; rfl) (by simp) (Upd.freezeIn nh 1 (cs := [.nil, .ms nr 5 0 ts.length]) (xs := ts.map fun t => .d (encTxn t)) (ts.map encTxn) (by (simp (maxSteps := 2000000) (disch := omega) [go_sem, -List.map_map, k5])) (by rfl) (by (simp (maxSteps := 2000000) (disch := omega) [go_sem, -List.map_map, k6])) (by rw [List.drop_zero, List.take_of_length_le (by simp), List.map_map]; rfl) (by simp) (Upd.done ?_)))
      refine WpM.less (St.Le.refl _) (Sub.le (l' := [(2, .ptr n0 0), (3, .ptr (n0 + 1) 0), (6, .ptr L 0), (7, .ptr nh 0)]) z_su) ?_
      refine WpM.norm ?_
      intro nx8 G8 hnx8 hG8 hk8
      have q1 : G8 L = some (.box [.d (.sl (b.keys.map D.str)), .ms nt 1 0 b.types.length, .ms nw 1 0 b.wrote.length, .ms ni 1 0 b.incs.length, .ms nl 1 0 b.incs.length]) := by rw [hG8]; (simp (maxSteps := 2000000) (disch := omega) [go_sem, -List.map_map])
      have q2 : G8 nh = some (.box [.nil, .d (.sl (ts.map encTxn))]) := by rw [hG8]; (simp (maxSteps := 2000000) (disch := omega) [go_sem, -List.map_map])
      have q3 : G8 n0 = some (.box [.nil, .nil]) := by rw [hG8]; (simp (maxSteps := 2000000) (disch := omega) [go_sem, -List.map_map, k2])
      have q4 : G8 (n0 + 1) = some (.box [.d (.int .i64 0), .d (.int .i64 0)]) := by rw [hG8]; (simp (maxSteps := 2000000) (disch := omega) [go_sem, -List.map_map, k3])
      have q5 : ∀ m k, H m = some k → G8 m = some k := fun m k hk => by
        have h9 := hH m k hk
        have h8 := hI.old m k hk
        rw [hG8]
        (simp (maxSteps := 2000000) (disch := omega) [go_sem, -List.map_map, h8])
      clear hG8 hk8 hnx8 kL kk k5 k6 k2 k3 hGk
      ((repeat refine WpM.seq ?_); have z_ex := (And.intro @q1 (And.intro @q2 True.intro)); refine WpM.regPE [] [(2, _), (3, _), (7, _)] (by (refine s_m [(6, _)] ?_; refine s_m [(139, _)] ?_; refine s_f [(140, _)] ?_; refine s_l [(141, _)] ?_; refine s_f [(7, _)] ?_; refine s_s [(142, _), (143, _)] ?_; exact wpS_nil ⟨rfl, rfl⟩)) z_su ?_; clear z_ex)
      ((repeat refine WpM.seq ?_); have z_ex := (And.intro @q2 (And.intro @q3 (And.intro @q4 True.intro))); refine WpM.regPE [] [(2, _), (3, _)] (by (refine s_l [(7, _)] ?_; refine s_g [] ?_; refine s_s [(2, _), (144, _)] ?_; refine s_s [(3, _), (145, _)] ?_; exact wpS_nil ⟨rfl, rfl⟩)) z_su ?_; clear z_ex)
      refine WpM.ret ?_
      refine ⟨.inr rfl, Upd.done ⟨_, (by (simp (maxSteps := 2000000) (disch := omega) [go_sem, -List.map_map, resV, resVs, resV1])), rfl, fun m k _ hk => ?_⟩⟩
      have h9 := hH _ _ hk
      have h8 := q5 m k hk
      (simp (maxSteps := 2000000) (disch := omega) [go_sem, -List.map_map, h8])
end Go.Proofs.Ytjjmedgibcffhaa
