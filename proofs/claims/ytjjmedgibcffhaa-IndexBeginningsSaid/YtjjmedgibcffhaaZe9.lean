/- Part 9 of the texts that stand behind this law. -/
import Derived.Test.YtjjmedgibcffhaaZe8
/- assizeref05.(*book).enter. -/
namespace Go.Proofs.Ytjjmedgibcffhaa
open Go.RowKit M
set_option linter.unusedSimpArgs false
set_option linter.unusedVariables false
set_option maxHeartbeats 8000000 in
theorem find51m (l : List ByteArray) (s : ByteArray) (hl : l.length ≤ 140737488351232) (nk : Nat) (S : St) (hS : S.get nk = some (.row 1 (l.map fun s => .d (.str s)))) : PureS Try.prog 51 [.ms nk 1 0 l.length, .d (.str s)] (.d (.int .i64 (findI l s))) S := by
  refine PureS.of (n := 19) Try.func51 rfl rfl (by simp) (by simp only [argL, Nat.reduceAdd] <;> rfl) rfl ?_
  intro n0 H hH0 hH
  rw [hH0] at hS
  ((repeat refine WpM.seq ?_); have z_ex := True.intro; refine WpM.regPE [] [(0, _), (1, _)] (by (refine s_o [] rfl rfl rfl z_su rfl q_move z_fp z_ss ?_; exact wpS_nil ⟨rfl, rfl⟩)) z_su ?_; clear z_ex)
  ((repeat refine WpM.seq ?_); have z_ex := True.intro; refine WpM.regPE [] [(0, _), (1, _), (5, _)] (by (refine s_o [] rfl rfl rfl z_su rfl q_move z_fp z_ss ?_; exact wpS_nil ⟨rfl, rfl⟩)) z_su ?_; clear z_ex)
  ((repeat refine WpM.seq ?_); refine WpM.block ?_)
  refine WpM.loop (fun (j : Nat) fr S => j ≤ l.length ∧ (∀ i (h : i < l.length), i < j → l[i] ≠ s) ∧ fr = frOf [(0, .ms nk 1 0 l.length), (1, .d (.str s)), (5, .d (.int .i64 j))] ∧ ∃ nx, S = ⟨nx, [], H⟩) (fun j => l.length - j) 0 (St.Le.refl _) (frLe_frOf (by (simp (maxSteps := 2000000) (disch := omega) [go_sem, -List.map_map]))) ⟨by omega, by simp, rfl, _, rfl⟩ ?_
  rintro j fr S' ⟨hj, hall, rfl, nx, rfl⟩
  ((repeat refine WpM.seq ?_); have z_ex := True.intro; refine WpM.regPE [] [(0, _), (1, _), (5, _), (9, _)] (by (refine s_o [(5, _)] rfl rfl rfl z_su rfl q_move z_fp z_ss ?_; refine s_o [(0, _)] rfl rfl rfl z_su rfl q_move z_fp z_ss ?_; refine s_o [(7, _)] rfl rfl rfl z_su rfl q_full z_fp z_ss ?_; refine s_o [(6, _), (8, _)] rfl rfl rfl z_su rfl q_full z_fp z_ss ?_; exact wpS_nil ⟨rfl, rfl⟩)) z_su ?_; clear z_ex)
  by_cases hlt : j < l.length
  · ((repeat refine WpM.seq ?_); refine WpM.condT (by (simp (maxSteps := 2000000) (disch := omega) [go_sem, -List.map_map, hlt])) ?_)
    refine WpM.skip ?_
    ((repeat refine WpM.seq ?_); refine WpM.block ?_)
    have hget : (l.map fun s => V.d (.str s))[j]? = some (.d (.str l[j])) := by simp [hlt]
    ((repeat refine WpM.seq ?_); have z_ex := (And.intro @hS (And.intro @hget (And.intro @hlt True.intro))); refine WpM.regPE [] [(0, _), (1, _), (5, _), (17, _)] (by (refine s_o [(0, _)] rfl rfl rfl z_su rfl q_move z_fp z_ss ?_; refine s_o [(5, _)] rfl rfl rfl z_su rfl q_move z_fp z_ss ?_; refine s_o [(12, _), (13, _)] rfl rfl rfl z_su rfl q_full z_fp z_ss ?_; refine s_o [(14, _)] rfl rfl rfl z_su rfl q_load z_fp z_ss ?_; refine s_o [(1, _)] rfl rfl rfl z_su rfl q_move z_fp z_ss ?_; refine s_o [(15, _), (16, _)] rfl rfl rfl z_su rfl q_full z_fp z_ss ?_; exact wpS_nil ⟨rfl, rfl⟩)) z_su ?_; clear z_ex)
    by_cases he : l[j] = s
    · ((repeat refine WpM.seq ?_); refine WpM.condT (by (simp (maxSteps := 2000000) (disch := omega) [go_sem, -List.map_map, he])) ?_)
      ((repeat refine WpM.seq ?_); have z_ex := True.intro; refine WpM.regPE [] [(4, _)] (by (refine s_o [(5, _)] rfl rfl rfl z_su rfl q_move z_fp z_ss ?_; refine s_o [(18, _)] rfl rfl rfl z_su rfl q_move z_fp z_ss ?_; exact wpS_nil ⟨rfl, rfl⟩)) z_su ?_; clear z_ex)
      have hf : findI l s = j := by rw [findI, findN_hit l s j hlt hall he]
      (refine WpM.ret ?_; refine ⟨.inr rfl, Upd.done ?_⟩; (simp (maxSteps := 2000000) (disch := omega) [go_sem, -List.map_map, resV, resVs, resV1, hf]))
    · ((repeat refine WpM.seq ?_); refine WpM.condF (by (simp (maxSteps := 2000000) (disch := omega) [go_sem, -List.map_map, he])) ?_)
      refine WpM.skip ?_
      ((repeat refine WpM.seq ?_); have z_ex := (And.intro @wrap_id True.intro); refine WpM.regPE [] [(0, _), (1, _), (5, _)] (by (refine s_o [(5, _)] rfl rfl rfl z_su rfl q_move z_fp z_ss ?_; refine s_o [(10, _)] rfl rfl rfl z_su rfl q_full z_fp z_ss ?_; refine s_o [(11, _)] rfl rfl rfl z_su rfl q_move z_fp z_ss ?_; exact wpS_nil ⟨rfl, rfl⟩)) z_su ?_; clear z_ex)
      have hall' : ∀ i (h : i < l.length), i < j + 1 → l[i] ≠ s := fun i h hi => by
        rcases Nat.lt_or_ge i j with h' | h'
        · exact hall i h h'
        · obtain rfl : i = j := by omega
          exact he
      exact round_end (x' := j + 1) (St.Le.refl _) (frLe_frOf (by (simp (maxSteps := 2000000) (disch := omega) [go_sem, -List.map_map, wrap_id]))) ⟨by omega, hall', rfl, _, rfl⟩ (by omega)
  · ((repeat refine WpM.seq ?_); refine WpM.condF (by (simp (maxSteps := 2000000) (disch := omega) [go_sem, -List.map_map, hlt])) ?_)
    (refine WpM.exit ?_; (repeat (with_reducible (first | refine thenM_exit ?_ | refine blockM_eq ?_ | refine blockM_ne (by decide) ?_))))
    obtain rfl : j = l.length := by omega
    have hf : findI l s = -1 := by rw [findI, findN_no l s fun h => by obtain ⟨i, hi, e⟩ := List.getElem_of_mem h; exact hall i hi hi e]
    ((repeat refine WpM.seq ?_); have z_ex := True.intro; refine WpM.regPE [] [(4, _)] (by (refine s_o [] rfl rfl rfl z_su rfl q_move z_fp z_ss ?_; exact wpS_nil ⟨rfl, rfl⟩)) z_su ?_; clear z_ex)
    (refine WpM.ret ?_; refine ⟨.inr rfl, Upd.done ?_⟩; (simp (maxSteps := 2000000) (disch := omega) [go_sem, -List.map_map, resV, resVs, resV1, hf]))
set_option maxHeartbeats 8000000 in
theorem enter50 (b : Bk) (n : Nat) (hn : n ≤ 1000000) (hw : b.Wf n) (c : CallD) (hk1 : 1 ≤ c.kind) (hk8 : c.kind ≤ 8) (who : Int) (hwho : 0 ≤ who) (L : Nat) (O : Nat → Prop) (S : St) (hL : BookAt S.get L b O) (hO : ∀ m, O m → m < S.next) :
    CallM Try.prog 50 [.ptr L 0, .d (encCall c), .d (.int .i64 who)] S fun r S' => EntP BookAt S.next S.get L O (enterB b c who) r S' := by
  refine CallM.start (n := 178) Try.func50 rfl rfl (by simp) (by simp only [argL, Nat.reduceAdd] <;> rfl) ?_
  intro hH
  obtain ⟨H, hHe⟩ : ∃ H, H = S.get := ⟨_, rfl⟩
  obtain ⟨n0, hne⟩ : ∃ n0, n0 = S.next := ⟨_, rfl⟩
  rw [← hHe, ← hne] at hH ⊢
  rw [← hHe] at hL
  rw [← hne] at hO
  obtain ⟨nk, nt, nw, ni, nl, ws, r, hN⟩ := hL
  obtain ⟨q1, q2, q3, q4, q5, q6⟩ := hN.box_ne
  obtain ⟨a1, a2, a3, a4, a5, a6, a7, a8, a9, a10⟩ := hN.ne
  have gL : L < n0 := hO _ hN.oL
  have gk : nk < n0 := hO _ hN.ok
  have gt : nt < n0 := hO _ hN.ot
  have gw : nw < n0 := hO _ hN.ow
  have gi : ni < n0 := hO _ hN.oi
  have gl : nl < n0 := hO _ hN.ol
  have k1 := hN.box
  have k2 := hN.keys
  have hkl := hw.keys
  have hfi := fun S h => find51m b.keys c.key (by omega) nk S h
  ((repeat refine WpM.seq ?_); have z_ex := (And.intro @encCall.eq_1 True.intro); refine WpM.regPE [] [(0, _), (2, _), (4, _)] (by (refine s_o [(1, _)] rfl rfl rfl z_su rfl q_box z_fp z_ss ?_; refine s_o [] rfl rfl rfl z_su rfl q_move z_fp z_ss ?_; exact wpS_nil ⟨rfl, rfl⟩)) z_su ?_; clear z_ex)
  ((repeat refine WpM.seq ?_); have z_ex := (And.intro @k1 (And.intro @k2 True.intro)); refine WpM.drwPE [] [(0, _), (2, _), (4, _), (7, _)] mixed (by kernel_rfl) (by kernel_rfl) [] (by kernel_rfl) (by (refine d_o [(0, _)] rfl rfl rfl z_su rfl q_move z_fp z_ss rfl ?_; refine d_o [(9, _)] rfl rfl rfl z_su rfl q_move z_fp z_ss rfl ?_; refine d_o [(10, _)] rfl rfl rfl z_su rfl q_fieldAddr z_fp z_ss rfl ?_; refine d_o [(11, _)] rfl rfl rfl z_su rfl q_load z_fp z_ss rfl ?_; refine d_o [(4, _)] rfl rfl rfl z_su rfl q_fieldAddr z_fp z_ss rfl ?_; refine d_o [(13, _)] rfl rfl rfl z_su rfl q_load z_fp z_ss rfl ?_; refine wpD_on [nk] rfl rfl (callOf_eq rfl rfl rfl (mlk_tmp z_lk (mlk_tmp z_lk mlk_nil))) z_ip rfl (fun S' h => hfi S' (by rw [h nk (by simp)]; simp (disch := omega) [go_sem, k2])) z_fp ?_; refine d_o [(15, _)] rfl rfl rfl z_su rfl q_move z_fp z_ss rfl ?_; exact d_end z_mt z_sn)) z_su ?_; clear z_ex)
  refine WpM.seq ?_
  refine wpMid (Mid := fun (fr : Fr) (S' : St) => ∃ b1 k O1, addB b c = some (b1, k) ∧ BookAt S'.get L b1 O1 ∧ (∀ m, O1 m → (O m ∨ n0 < m) ∧ m < S'.next) ∧ n0 < S'.next ∧ S'.get n0 = some (.box [.d (.int .i64 c.kind), .d (.str c.key), .d (.int .i64 c.arg), .d (.bool c.got), .d (.sl (c.vals.map (D.int .i64)))]) ∧ (∀ m k, ¬ O m → H m = some k → S'.get m = some k) ∧ FrLe fr (frOf [(0, .ptr L 0), (2, .d (.int .i64 who)), (4, .ptr n0 0), (7, .d (.int .i64 k))])) ?_ ?_
  · cases hf : findN b.keys c.key with
    | none =>
      have hfi0 : findI b.keys c.key = -1 := by rw [findI, hf]
      ((repeat refine WpM.seq ?_); have z_ex := (And.intro @hfi0 True.intro); refine WpM.regPE [] [(0, _), (2, _), (4, _), (7, _), (17, _)] (by (refine s_o [(7, _)] rfl rfl rfl z_su rfl q_move z_fp z_ss ?_; refine s_o [(16, _)] rfl rfl rfl z_su rfl q_full z_fp z_ss ?_; exact wpS_nil ⟨rfl, rfl⟩)) z_su ?_; clear z_ex)
      ((repeat refine WpM.seq ?_); refine WpM.condT (by (simp (maxSteps := 2000000) (disch := omega) [go_sem, -List.map_map, hfi0])) ?_)
      ((repeat refine WpM.seq ?_); have z_ex := (And.intro @k1 True.intro); refine WpM.regPE [] [(0, _), (2, _), (4, _), (23, _)] (by (refine s_o [(0, _)] rfl rfl rfl z_su rfl q_move z_fp z_ss ?_; refine s_o [(18, _)] rfl rfl rfl z_su rfl q_move z_fp z_ss ?_; refine s_o [(19, _)] rfl rfl rfl z_su rfl q_fieldAddr z_fp z_ss ?_; refine s_o [(20, _)] rfl rfl rfl z_su rfl q_load z_fp z_ss ?_; refine s_o [(21, _)] rfl rfl rfl z_su rfl q_full z_fp z_ss ?_; refine s_o [(22, _)] rfl rfl rfl z_su rfl q_full z_fp z_ss ?_; exact wpS_nil ⟨rfl, rfl⟩)) z_su ?_; clear z_ex)
      by_cases hl : b.keys.length = 32
      · have hl' : (32 : Int) ≤ b.keys.length := by omega
        ((repeat refine WpM.seq ?_); refine WpM.condT (by (simp (maxSteps := 2000000) (disch := omega) [go_sem, -List.map_map, hl'])) ?_)
        have he : enterB b c who = .error 2 := by simp [enterB, addB, hf, hl]
        rw [he]
        ((repeat refine WpM.seq ?_); have z_ex := True.intro; refine WpM.regPE [] [(6, _)] (by (refine s_o [] rfl rfl rfl z_su rfl q_move z_fp z_ss ?_; exact wpS_nil ⟨rfl, rfl⟩)) z_su ?_; clear z_ex)
        refine WpM.ret ?_
        refine ⟨.inr rfl, Upd.done ⟨_, (by (simp (maxSteps := 2000000) (disch := omega) [go_sem, -List.map_map, resV, resVs, resV1])), (by show n0 ≤ n0 + _; omega), fun m k _ hk => ?_, rfl, by decide⟩⟩
        have := hH _ _ hk
        (simp (maxSteps := 2000000) (disch := omega) [go_sem, -List.map_map, hk])
      · have hl' : (b.keys.length : Int) < 32 := by omega
        ((repeat refine WpM.seq ?_); refine WpM.condF (by (simp (maxSteps := 2000000) (disch := omega) [go_sem, -List.map_map, hl'])) ?_)
        refine WpM.skip ?_
        have ht := of35 c.kind hk1 hk8
        have k4 := hN.types
        have k5 := hN.wr
        have k6 := hN.incs
        have k7 := hN.last
        have htl := hw.types
        have hwl := hw.wrote
        have hil := hw.incs
        have hwn := hN.wlen
        have t1 : (b.keys.map fun s => V.d (.str s)).take b.keys.length = b.keys.map fun s => V.d (.str s) := List.take_of_length_le (by simp)
        have t2 : (b.types.map fun s => V.d (.int .i64 s)).take b.types.length = b.types.map fun s => V.d (.int .i64 s) := List.take_of_length_le (by simp)
        have t3 : ws.take b.wrote.length = ws := List.take_of_length_le (by omega)
        have t4 : (b.incs.map fun l => V.d (.int .i64 l.length)).take b.incs.length = b.incs.map fun l => V.d (.int .i64 l.length) := List.take_of_length_le (by simp)
        have t5 : (b.incs.map fun l => V.d (.int .i64 (lastD l))).take b.incs.length = b.incs.map fun l => V.d (.int .i64 (lastD l)) := List.take_of_length_le (by simp)
        ((repeat refine WpM.seq ?_); have z_ex := (And.intro @k1 True.intro); refine WpM.regPE [] [(0, _), (2, _), (4, _), (7, _)] (by (refine s_o [(0, _)] rfl rfl rfl z_su rfl q_move z_fp z_ss ?_; refine s_o [(24, _)] rfl rfl rfl z_su rfl q_move z_fp z_ss ?_; refine s_o [(25, _)] rfl rfl rfl z_su rfl q_fieldAddr z_fp z_ss ?_; refine s_o [(26, _)] rfl rfl rfl z_su rfl q_load z_fp z_ss ?_; refine s_o [(27, _)] rfl rfl rfl z_su rfl q_full z_fp z_ss ?_; refine s_o [(28, _)] rfl rfl rfl z_su rfl q_move z_fp z_ss ?_; exact wpS_nil ⟨rfl, rfl⟩)) z_su ?_; clear z_ex)
        ((repeat refine WpM.seq ?_); have z_ex := (And.intro @k1 (And.intro @k2 (And.intro @t1 True.intro))); refine WpM.drwPE [] [(0, _), (2, _), (4, _), (7, _)] mixed (by kernel_rfl) (by kernel_rfl) [(4, 7)] (by kernel_rfl) (by (refine d_o [(0, _)] rfl rfl rfl z_su rfl q_move z_fp z_ss rfl ?_; refine d_o [(0, _)] rfl rfl rfl z_su rfl q_move z_fp z_ss rfl ?_; refine d_o [(30, _)] rfl rfl rfl z_su rfl q_move z_fp z_ss rfl ?_; refine d_o [(31, _)] rfl rfl rfl z_su rfl q_fieldAddr z_fp z_ss rfl ?_; refine d_o [(32, _)] rfl rfl rfl z_su rfl q_load z_fp z_ss rfl ?_; refine d_o [(4, _)] rfl rfl rfl z_su rfl q_fieldAddr z_fp z_ss rfl ?_; refine d_o [(34, _)] rfl rfl rfl z_su rfl q_load z_fp z_ss rfl ?_; refine d_o [(35, _)] rfl rfl rfl z_su rfl q_full z_fp z_ss rfl ?_; refine d_o [(33, _), (36, _)] rfl rfl rfl z_su rfl q_full z_fp z_ss rfl ?_; refine d_o [(29, _)] rfl rfl rfl z_su rfl q_move z_fp z_ss rfl ?_; refine d_o [(38, _)] rfl rfl rfl z_su rfl q_fieldAddr z_fp z_ss rfl ?_; refine d_o [(37, _), (39, _)] rfl rfl rfl z_su rfl q_store z_fp z_ss rfl ?_; exact d_end z_mt z_sn)) z_su ?_; clear z_ex)
        ((repeat refine WpM.seq ?_); have z_ex := (And.intro @k1 (And.intro @k4 (And.intro @t2 True.intro))); refine WpM.drwPE [] [(0, _), (2, _), (4, _), (7, _)] mixed (by kernel_rfl) (by kernel_rfl) [(4, 7), (4, 8)] (by kernel_rfl) (by (refine d_o [(0, _)] rfl rfl rfl z_su rfl q_move z_fp z_ss rfl ?_; refine d_o [(0, _)] rfl rfl rfl z_su rfl q_move z_fp z_ss rfl ?_; refine d_o [(41, _)] rfl rfl rfl z_su rfl q_move z_fp z_ss rfl ?_; refine d_o [(42, _)] rfl rfl rfl z_su rfl q_fieldAddr z_fp z_ss rfl ?_; refine d_o [(43, _)] rfl rfl rfl z_su rfl q_load z_fp z_ss rfl ?_; refine d_o [(4, _)] rfl rfl rfl z_su rfl q_fieldAddr z_fp z_ss rfl ?_; refine d_o [(45, _)] rfl rfl rfl z_su rfl q_load z_fp z_ss rfl ?_; refine d_pure (callOf_eq rfl rfl rfl (mlk_tmp z_lk mlk_nil)) (ht) rfl rfl z_ip rfl z_fp ?_; refine d_o [(47, _)] rfl rfl rfl z_su rfl q_full z_fp z_ss rfl ?_; refine d_o [(44, _), (48, _)] rfl rfl rfl z_su rfl q_full z_fp z_ss rfl ?_; refine d_o [(40, _)] rfl rfl rfl z_su rfl q_move z_fp z_ss rfl ?_; refine d_o [(50, _)] rfl rfl rfl z_su rfl q_fieldAddr z_fp z_ss rfl ?_; refine d_o [(49, _), (51, _)] rfl rfl rfl z_su rfl q_store z_fp z_ss rfl ?_; exact d_end z_mt z_sn)) z_su ?_; clear z_ex)
        ((repeat refine WpM.seq ?_); have z_ex := (And.intro @k1 (And.intro @k5 (And.intro @t3 (And.intro @hwn True.intro)))); refine WpM.regPE [] [(0, _), (2, _), (4, _), (7, _)] (by (refine s_o [(0, _)] rfl rfl rfl z_su rfl q_move z_fp z_ss ?_; refine s_o [(0, _)] rfl rfl rfl z_su rfl q_move z_fp z_ss ?_; refine s_o [(53, _)] rfl rfl rfl z_su rfl q_move z_fp z_ss ?_; refine s_o [(54, _)] rfl rfl rfl z_su rfl q_fieldAddr z_fp z_ss ?_; refine s_o [(55, _)] rfl rfl rfl z_su rfl q_load z_fp z_ss ?_; refine s_o [] rfl rfl rfl z_su rfl q_full z_fp z_ss ?_; refine s_o [(56, _), (57, _)] rfl rfl rfl z_su rfl q_full z_fp z_ss ?_; refine s_o [(52, _)] rfl rfl rfl z_su rfl q_move z_fp z_ss ?_; refine s_o [(59, _)] rfl rfl rfl z_su rfl q_fieldAddr z_fp z_ss ?_; refine s_o [(58, _), (60, _)] rfl rfl rfl z_su rfl q_store z_fp z_ss ?_; exact wpS_nil ⟨rfl, rfl⟩)) z_su ?_; clear z_ex)
        ((repeat refine WpM.seq ?_); have z_ex := (And.intro @k1 (And.intro @k6 (And.intro @t4 True.intro))); refine WpM.regPE [] [(0, _), (2, _), (4, _), (7, _)] (by (refine s_o [(0, _)] rfl rfl rfl z_su rfl q_move z_fp z_ss ?_; refine s_o [(0, _)] rfl rfl rfl z_su rfl q_move z_fp z_ss ?_; refine s_o [(62, _)] rfl rfl rfl z_su rfl q_move z_fp z_ss ?_; refine s_o [(63, _)] rfl rfl rfl z_su rfl q_fieldAddr z_fp z_ss ?_; refine s_o [(64, _)] rfl rfl rfl z_su rfl q_load z_fp z_ss ?_; refine s_o [] rfl rfl rfl z_su rfl q_full z_fp z_ss ?_; refine s_o [(65, _), (66, _)] rfl rfl rfl z_su rfl q_full z_fp z_ss ?_; refine s_o [(61, _)] rfl rfl rfl z_su rfl q_move z_fp z_ss ?_; refine s_o [(68, _)] rfl rfl rfl z_su rfl q_fieldAddr z_fp z_ss ?_; refine s_o [(67, _), (69, _)] rfl rfl rfl z_su rfl q_store z_fp z_ss ?_; exact wpS_nil ⟨rfl, rfl⟩)) z_su ?_; clear z_ex)
        ((repeat refine WpM.seq ?_); have z_ex := (And.intro @k1 (And.intro @k7 (And.intro @t5 True.intro))); refine WpM.regPE [] [(0, _), (2, _), (4, _), (7, _)] (by (refine s_o [(0, _)] rfl rfl rfl z_su rfl q_move z_fp z_ss ?_; refine s_o [(0, _)] rfl rfl rfl z_su rfl q_move z_fp z_ss ?_; refine s_o [(71, _)] rfl rfl rfl z_su rfl q_move z_fp z_ss ?_; refine s_o [(72, _)] rfl rfl rfl z_su rfl q_fieldAddr z_fp z_ss ?_; refine s_o [(73, _)] rfl rfl rfl z_su rfl q_load z_fp z_ss ?_; refine s_o [] rfl rfl rfl z_su rfl q_full z_fp z_ss ?_; refine s_o [(74, _), (75, _)] rfl rfl rfl z_su rfl q_full z_fp z_ss ?_; refine s_o [(70, _)] rfl rfl rfl z_su rfl q_move z_fp z_ss ?_; refine s_o [(77, _)] rfl rfl rfl z_su rfl q_fieldAddr z_fp z_ss ?_; refine s_o [(76, _), (78, _)] rfl rfl rfl z_su rfl q_store z_fp z_ss ?_; exact wpS_nil ⟨rfl, rfl⟩)) z_su ?_; clear z_ex)
        have o1 : ¬ O (n0 + 32) := fun h => by have := hO _ h; omega
        have o2 : ¬ O (n0 + 45) := fun h => by have := hO _ h; omega
        have o3 : ¬ O (n0 + 55) := fun h => by have := hO _ h; omega
        have o4 : ¬ O (n0 + 65) := fun h => by have := hO _ h; omega
        have o5 : ¬ O (n0 + 75) := fun h => by have := hO _ h; omega
        refine ⟨b.push c, b.keys.length, fun m => O m ∨ m = n0 + 32 ∨ m = n0 + 45 ∨ m = n0 + 55 ∨ m = n0 + 65 ∨ m = n0 + 75, by simp [addB, hf, hl], hN.push hw o1 o2 o3 o4 o5 (by omega) (by (simp (maxSteps := 2000000) (disch := omega) [go_sem, -List.map_map])) (by (simp (maxSteps := 2000000) (disch := omega) [go_sem, -List.map_map])) (by (simp (maxSteps := 2000000) (disch := omega) [go_sem, -List.map_map])) (by (simp (maxSteps := 2000000) (disch := omega) [go_sem, -List.map_map])) (by (simp (maxSteps := 2000000) (disch := omega) [go_sem, -List.map_map])) (by (simp (maxSteps := 2000000) (disch := omega) [go_sem, -List.map_map])) (fun m k h1 h2 h3 h4 h5 h6 ho hk => ?_), fun m hm => ?_, ?_, ?_, fun m k ho hk => ?_, FrLe.refl _⟩
        · have := hO _ ho
          (simp (maxSteps := 2000000) (disch := omega) [go_sem, -List.map_map, hk])
        · show _ ∧ m < n0 + 79
          rcases hm with hm | hm
          · have := hO _ hm; exact ⟨.inl hm, by omega⟩
          · exact ⟨.inr (by omega), by omega⟩
        · show n0 < n0 + 79; omega
        · (simp (maxSteps := 2000000) (disch := omega) [go_sem, -List.map_map])
        · have h1 : m ≠ L := fun e => ho (e ▸ hN.oL)
          have h2 : m ≠ nk := fun e => ho (e ▸ hN.ok)
          have h3 : m ≠ nt := fun e => ho (e ▸ hN.ot)
          have h4 : m ≠ nw := fun e => ho (e ▸ hN.ow)
          have h5 : m ≠ ni := fun e => ho (e ▸ hN.oi)
          have h6 : m ≠ nl := fun e => ho (e ▸ hN.ol)
          have := hH _ _ hk
          (simp (maxSteps := 2000000) (disch := omega) [go_sem, -List.map_map, hk])
    | some k =>
      have hfi0 : findI b.keys c.key = k := by rw [findI, hf]
      have hge : ¬ ((k : Int) < 0) := by omega
      ((repeat refine WpM.seq ?_); have z_ex := (And.intro @hfi0 (And.intro @hge True.intro)); refine WpM.regPE [] [(0, _), (2, _), (4, _), (7, _), (17, _)] (by (refine s_o [(7, _)] rfl rfl rfl z_su rfl q_move z_fp z_ss ?_; refine s_o [(16, _)] rfl rfl rfl z_su rfl q_full z_fp z_ss ?_; exact wpS_nil ⟨rfl, rfl⟩)) z_su ?_; clear z_ex)
      ((repeat refine WpM.seq ?_); refine WpM.condF (by (simp (maxSteps := 2000000) (disch := omega) [go_sem, -List.map_map, hfi0, hge])) ?_)
      refine WpM.skip ?_
      refine ⟨b, k, O, by simp [addB, hf], ?_, fun m hm => ⟨.inl hm, ?_⟩, ?_, ?_, fun m k ho hk => ?_, ?_⟩
      · refine BookAt.same (G := H) ⟨nk, nt, nw, ni, nl, ws, r, hN⟩ fun m k ho hk => ?_
        have := hO _ ho
        (simp (maxSteps := 2000000) (disch := omega) [go_sem, -List.map_map, hk])
      · have := hO _ hm; show m < n0 + _; omega
      · show n0 < n0 + _; omega
      · (simp (maxSteps := 2000000) (disch := omega) [go_sem, -List.map_map])
      · have := hH _ _ hk
        (simp (maxSteps := 2000000) (disch := omega) [go_sem, -List.map_map, hk])
      · exact frLe_frOf (by (simp (maxSteps := 2000000) (disch := omega) [go_sem, -List.map_map, hfi0]))
  clear hfi k1 k2 hN q1 q2 q3 q4 q5 q6 a1 a2 a3 a4 a5 a6 a7 a8 a9 a10 gL gk gt gw gi gl
  rintro fr S' ⟨b1, k, O1, hadd, ⟨nk, nt, nw, ni, nl, ws, r, hN⟩, hO1, hnx, hc, old, hfr⟩
  refine WpM.less (St.Le.refl _) hfr ?_
  refine WpM.norm ?_
  intro nx G hnx2 hG2 hGk
  rw [← hG2] at hN hc old
  rw [← hnx2] at hnx hO1
  clear hG2 hnx2 hfr
  obtain ⟨hw1, hf1⟩ := addB_wf hw hadd
  have hen : enterB b c who = putB b1 k c who := by simp [enterB, hadd]
  rw [hen]
  clear hen hadd
  obtain ⟨q1, q2, q3, q4, q5, q6⟩ := hN.box_ne
  obtain ⟨a1, a2, a3, a4, a5, a6, a7, a8, a9, a10⟩ := hN.ne
  have on0 : ¬ O1 n0 := fun h => by
    rcases (hO1 _ h).1 with h' | h'
    · have := hO _ h'; omega
    · omega
  have gL : L < nx := (hO1 _ hN.oL).2
  have gk : nk < nx := (hO1 _ hN.ok).2
  have gt : nt < nx := (hO1 _ hN.ot).2
  have gw : nw < nx := (hO1 _ hN.ow).2
  have gi : ni < nx := (hO1 _ hN.oi).2
  have gl : nl < nx := (hO1 _ hN.ol).2
  have nL : n0 ≠ L := fun e => on0 (e ▸ hN.oL)
  have nt0 : n0 ≠ nt := fun e => on0 (e ▸ hN.ot)
  have nw0 : n0 ≠ nw := fun e => on0 (e ▸ hN.ow)
  have ni0 : n0 ≠ ni := fun e => on0 (e ▸ hN.oi)
  have nl0 : n0 ≠ nl := fun e => on0 (e ▸ hN.ol)
  have k1 := hN.box
  have k5 := hN.types
  have k8 := hN.wr
  have k10 := hN.incs
  have k11 := hN.last
  have hkl := findN_lt hf1
  have htl := hw1.types
  have hwl := hw1.wrote
  have hil := hw1.incs
  have hwn := hN.wlen
  have hkl32 := hw1.keys
  have hkt1 : k < b1.types.length := by omega
  have hkw : k < b1.wrote.length := by omega
  have hki : k < b1.incs.length := by omega
  obtain ⟨ty, hty0⟩ : ∃ ty, ty = b1.types.getD k 0 := ⟨_, rfl⟩
  have hgt : (b1.types.map fun t => V.d (.int .i64 t))[k]? = some (.d (.int .i64 ty)) := by rw [hty0]; simp [hkt1]
  have ht := of35 c.kind hk1 hk8
  have oldO : ∀ m k, ¬ O m → H m = some k → m < nx ∧ G m = some k ∧ m ≠ n0 := fun m k ho hk => by
    have h1 := old m k ho hk
    have h2 := hGk _ _ h1
    have h3 := hH _ _ hk
    exact ⟨h2, h1, by omega⟩
  have onO : ∀ m, O1 m → ∀ q k, ¬ O q → H q = some k → q ≠ m := fun m hm q k ho hk e => by
    rcases (hO1 _ hm).1 with h | h
    · exact ho (e ▸ h)
    · have := hH _ _ hk; omega
  ((repeat refine WpM.seq ?_); have z_ex := (And.intro @k1 (And.intro @k5 (And.intro @hgt (And.intro @hkt1 (And.intro @hc True.intro))))); refine WpM.drwPE [] [(0, _), (2, _), (4, _), (7, _), (89, _)] mixed (by kernel_rfl) (by kernel_rfl) [(3, 9), (6, 9)] (by kernel_rfl) (by (refine d_o [(0, _)] rfl rfl rfl z_su rfl q_move z_fp z_ss rfl ?_; refine d_o [(79, _)] rfl rfl rfl z_su rfl q_move z_fp z_ss rfl ?_; refine d_o [(80, _)] rfl rfl rfl z_su rfl q_fieldAddr z_fp z_ss rfl ?_; refine d_o [(81, _)] rfl rfl rfl z_su rfl q_load z_fp z_ss rfl ?_; refine d_o [(7, _)] rfl rfl rfl z_su rfl q_move z_fp z_ss rfl ?_; refine d_o [(82, _), (83, _)] rfl rfl rfl z_su rfl q_full z_fp z_ss rfl ?_; refine d_o [(84, _)] rfl rfl rfl z_su rfl q_load z_fp z_ss rfl ?_; refine d_o [(4, _)] rfl rfl rfl z_su rfl q_fieldAddr z_fp z_ss rfl ?_; refine d_o [(86, _)] rfl rfl rfl z_su rfl q_load z_fp z_ss rfl ?_; refine d_pure (callOf_eq rfl rfl rfl (mlk_tmp z_lk mlk_nil)) (ht) rfl rfl z_ip rfl z_fp ?_; refine d_o [(85, _), (88, _)] rfl rfl rfl z_su rfl q_full z_fp z_ss rfl ?_; exact d_end z_mt z_sn)) z_su ?_; clear z_ex)
  by_cases hty : ty = tyOf c.kind
  · ((repeat refine WpM.seq ?_); refine WpM.condF (by (simp (maxSteps := 2000000) (disch := omega) [go_sem, -List.map_map, hty])) ?_)
    refine WpM.skip ?_
    have hput : putB b1 k c who = if c.kind = 2 ∨ c.kind = 3 then
        if c.arg ∈ b1.wrote.getD k [] then .error 3 else .ok { b1 with wrote := b1.wrote.set k (b1.wrote.getD k [] ++ [c.arg]) }
      else if c.kind = 4 then
        if 8 < (incNext (b1.incs.getD k []) who).length then .error 51 else .ok { b1 with incs := b1.incs.set k (incNext (b1.incs.getD k []) who) }
      else .ok b1 := by rw [putB, ← hty0, if_neg (by simpa using hty)]
    rw [hput]
    clear hput
    by_cases h23 : c.kind = 2 ∨ c.kind = 3
    · rw [if_pos h23]
      have hw0 := hN.w0 k (by omega)
      have hwk := hN.w1 k
      have hwlen := hw1.wlen k
      have hq6 := q6 k
      obtain ⟨wl, hwl0⟩ : ∃ wl, wl = b1.wrote.getD k [] := ⟨_, rfl⟩
      rw [← hwl0] at hw0 hwk hwlen hq6 ⊢
      have h4 : ¬ c.kind = 4 := by omega
      have fin : ∀ (S2 : St) (nr : Nat), nx ≤ nr → nr < S2.next → S2.get nw = some (.row 1 (ws.set k (.ms nr 1 0 (wl.length + 1)))) → S2.get nr = some (.row 1 ((wl.map fun t => .d (.int .i64 t)) ++ [.d (.int .i64 c.arg)])) →
          (∀ m q, m ≠ nw → (wl ≠ [] → m ≠ r k) → m < nx → G m = some q → S2.get m = some q) → EntP BookAt n0 H L O (.ok { b1 with wrote := b1.wrote.set k (wl ++ [c.arg]) }) (.d (.int .i64 0)) S2 := by
        intro S2 nr h1 h2 h3 h5 h6
        refine ⟨by omega, fun m q ho hk => ?_, rfl, fun m => O1 m ∨ m = nr, fun m hm => ?_, ?_⟩
        · obtain ⟨b1, b2, b3⟩ := oldO m q ho hk
          exact h6 m q (onO _ hN.ow m q ho hk) (fun hne => onO _ (hwk hne).2.2.1 m q ho hk) b1 b2
        · rcases hm with hm | rfl
          · have := hO1 m hm; exact ⟨this.1.imp id (fun h => by omega), by omega⟩
          · exact ⟨.inr (by omega), h2⟩
        · rw [hwl0] at h3 h5 ⊢
          exact hN.wrote (nr := nr) hw1 hkw (fun h => by have := (hO1 _ h).2; omega) h3 h5 fun m q e1 e2 ho hk => h6 m q e1 (by rw [hwl0]; exact e2) (hO1 _ ho).2 hk
      rcases h23 with h2 | h2
      · ((repeat refine WpM.seq ?_); have z_ex := (And.intro @hc (And.intro @h2 True.intro)); refine WpM.regPE [] [(0, _), (2, _), (4, _), (7, _), (97, _)] (by (refine s_o [(4, _)] rfl rfl rfl z_su rfl q_fieldAddr z_fp z_ss ?_; refine s_o [(90, _)] rfl rfl rfl z_su rfl q_load z_fp z_ss ?_; refine s_o [(91, _)] rfl rfl rfl z_su rfl q_full z_fp z_ss ?_; refine s_o [(92, _)] rfl rfl rfl z_su rfl q_move z_fp z_ss ?_; refine s_wit ?_; intro z_g; (first | refine s_skip rfl z_g z_fp ?_ | (refine s_o [(4, _)] rfl z_g rfl z_su rfl q_fieldAddr z_fp z_ss ?_)); clear z_g; refine s_wit ?_; intro z_g; (first | refine s_skip rfl z_g z_fp ?_ | (refine s_o [(94, _)] rfl z_g rfl z_su rfl q_load z_fp z_ss ?_)); clear z_g; refine s_wit ?_; intro z_g; (first | refine s_skip rfl z_g z_fp ?_ | (refine s_o [(95, _)] rfl z_g rfl z_su rfl q_full z_fp z_ss ?_)); clear z_g; refine s_o [(93, _), (96, _)] rfl rfl rfl z_su rfl q_move z_fp z_ss ?_; exact wpS_nil ⟨rfl, rfl⟩)) z_su ?_; clear z_ex)
        ((repeat refine WpM.seq ?_); refine WpM.condT (by (simp (maxSteps := 2000000) (disch := omega) [go_sem, -List.map_map, h2])) ?_)
        ((repeat refine WpM.seq ?_); have z_ex := True.intro; refine WpM.regPE [] [(0, _), (2, _), (4, _), (7, _), (8, _)] (by (refine s_o [] rfl rfl rfl z_su rfl q_move z_fp z_ss ?_; exact wpS_nil ⟨rfl, rfl⟩)) z_su ?_; clear z_ex)
        ((repeat refine WpM.seq ?_); refine WpM.block ?_)
        by_cases hnil : wl = []
        · have hv := hw0 hnil
          refine WpM.loop (fun (j : Nat) fr S => fr = frOf [(0, .ptr L 0), (2, .d (.int .i64 who)), (4, .ptr n0 0), (7, .d (.int .i64 k)), (8, .d (.int .i64 0))] ∧ ∃ nx2, nx ≤ nx2 ∧ S = ⟨nx2, [], G⟩) (fun j => 0) 0 (St.Le.refl _) (frLe_frOf (by (simp (maxSteps := 2000000) (disch := omega) [go_sem, -List.map_map]))) ⟨rfl, _, ?_, rfl⟩ ?_
          · omega
          rintro j fr S2 ⟨rfl, nx2, hnx2, rfl⟩
          ((repeat refine WpM.seq ?_); have z_ex := (And.intro @k1 (And.intro @k8 (And.intro @hv (And.intro @hkw (And.intro @hwn True.intro))))); refine WpM.regPE [] [(0, _), (2, _), (4, _), (7, _), (8, _), (107, _)] (by (refine s_o [(8, _)] rfl rfl rfl z_su rfl q_move z_fp z_ss ?_; refine s_o [(0, _)] rfl rfl rfl z_su rfl q_move z_fp z_ss ?_; refine s_o [(99, _)] rfl rfl rfl z_su rfl q_move z_fp z_ss ?_; refine s_o [(100, _)] rfl rfl rfl z_su rfl q_fieldAddr z_fp z_ss ?_; refine s_o [(101, _)] rfl rfl rfl z_su rfl q_load z_fp z_ss ?_; refine s_o [(7, _)] rfl rfl rfl z_su rfl q_move z_fp z_ss ?_; refine s_o [(102, _), (103, _)] rfl rfl rfl z_su rfl q_full z_fp z_ss ?_; refine s_o [(104, _)] rfl rfl rfl z_su rfl q_load z_fp z_ss ?_; refine s_o [(105, _)] rfl rfl rfl z_su rfl q_full z_fp z_ss ?_; refine s_o [(98, _), (106, _)] rfl rfl rfl z_su rfl q_full z_fp z_ss ?_; exact wpS_nil ⟨rfl, rfl⟩)) z_su ?_; clear z_ex)
          ((repeat refine WpM.seq ?_); refine WpM.condF (by (simp (maxSteps := 2000000) (disch := omega) [go_sem, -List.map_map])) ?_)
          (refine WpM.exit ?_; (repeat (with_reducible (first | refine thenM_exit ?_ | refine blockM_eq ?_ | refine blockM_ne (by decide) ?_))))
          rw [if_neg (by rw [hnil]; simp)]
          ((repeat refine WpM.seq ?_); have z_ex := (And.intro @k1 (And.intro @k8 (And.intro @hv (And.intro @hkw (And.intro @hwn (And.intro @hc True.intro)))))); refine WpM.drwPE [] [(0, _), (2, _), (4, _), (7, _)] mixed (by kernel_rfl) (by kernel_rfl) [(3, 14), (8, 14), (11, 14), (3, 15)] (by kernel_rfl) (by (refine d_o [(0, _)] rfl rfl rfl z_su rfl q_move z_fp z_ss rfl ?_; refine d_o [(123, _)] rfl rfl rfl z_su rfl q_move z_fp z_ss rfl ?_; refine d_o [(124, _)] rfl rfl rfl z_su rfl q_fieldAddr z_fp z_ss rfl ?_; refine d_o [(125, _)] rfl rfl rfl z_su rfl q_load z_fp z_ss rfl ?_; refine d_o [(7, _)] rfl rfl rfl z_su rfl q_move z_fp z_ss rfl ?_; refine d_o [(0, _)] rfl rfl rfl z_su rfl q_move z_fp z_ss rfl ?_; refine d_o [(128, _)] rfl rfl rfl z_su rfl q_move z_fp z_ss rfl ?_; refine d_o [(129, _)] rfl rfl rfl z_su rfl q_fieldAddr z_fp z_ss rfl ?_; refine d_o [(130, _)] rfl rfl rfl z_su rfl q_load z_fp z_ss rfl ?_; refine d_o [(7, _)] rfl rfl rfl z_su rfl q_move z_fp z_ss rfl ?_; refine d_o [(131, _), (132, _)] rfl rfl rfl z_su rfl q_full z_fp z_ss rfl ?_; refine d_o [(133, _)] rfl rfl rfl z_su rfl q_load z_fp z_ss rfl ?_; refine d_o [(4, _)] rfl rfl rfl z_su rfl q_fieldAddr z_fp z_ss rfl ?_; refine d_o [(135, _)] rfl rfl rfl z_su rfl q_load z_fp z_ss rfl ?_; refine d_o [(136, _)] rfl rfl rfl z_su rfl q_full z_fp z_ss rfl ?_; refine d_o [(134, _), (137, _)] rfl rfl rfl z_su rfl q_full z_fp z_ss rfl ?_; refine d_o [(126, _), (127, _)] rfl rfl rfl z_su rfl q_full z_fp z_ss rfl ?_; refine d_o [(138, _), (139, _)] rfl rfl rfl z_su rfl q_store z_fp z_ss rfl ?_; exact d_end z_mt z_sn)) z_su ?_; clear z_ex)
          ((repeat refine WpM.seq ?_); have z_ex := (And.intro @hc (And.intro @h4 True.intro)); refine WpM.regPE [] [(0, _), (2, _), (7, _), (153, _)] (by (refine s_o [(4, _)] rfl rfl rfl z_su rfl q_fieldAddr z_fp z_ss ?_; refine s_o [(140, _)] rfl rfl rfl z_su rfl q_load z_fp z_ss ?_; refine s_o [(141, _)] rfl rfl rfl z_su rfl q_full z_fp z_ss ?_; refine s_o [(142, _)] rfl rfl rfl z_su rfl q_move z_fp z_ss ?_; refine s_wit ?_; intro z_g; (first | refine s_skip rfl z_g z_fp ?_ | (refine s_o [(0, _)] rfl z_g rfl z_su rfl q_move z_fp z_ss ?_)); clear z_g; refine s_wit ?_; intro z_g; (first | refine s_skip rfl z_g z_fp ?_ | (refine s_o [(144, _)] rfl z_g rfl z_su rfl q_move z_fp z_ss ?_)); clear z_g; refine s_wit ?_; intro z_g; (first | refine s_skip rfl z_g z_fp ?_ | (refine s_o [(145, _)] rfl z_g rfl z_su rfl q_fieldAddr z_fp z_ss ?_)); clear z_g; refine s_wit ?_; intro z_g; (first | refine s_skip rfl z_g z_fp ?_ | (refine s_o [(146, _)] rfl z_g rfl z_su rfl q_load z_fp z_ss ?_)); clear z_g; refine s_wit ?_; intro z_g; (first | refine s_skip rfl z_g z_fp ?_ | (refine s_o [(7, _)] rfl z_g rfl z_su rfl q_move z_fp z_ss ?_)); clear z_g; refine s_wit ?_; intro z_g; (first | refine s_skip rfl z_g z_fp ?_ | (refine s_o [(147, _), (148, _)] rfl z_g rfl z_su rfl q_full z_fp z_ss ?_)); clear z_g; refine s_wit ?_; intro z_g; (first | refine s_skip rfl z_g z_fp ?_ | (refine s_o [(149, _)] rfl z_g rfl z_su rfl q_load z_fp z_ss ?_)); clear z_g; refine s_wit ?_; intro z_g; (first | refine s_skip rfl z_g z_fp ?_ | (refine s_o [(2, _)] rfl z_g rfl z_su rfl q_move z_fp z_ss ?_)); clear z_g; refine s_wit ?_; intro z_g; (first | refine s_skip rfl z_g z_fp ?_ | (refine s_o [(150, _), (151, _)] rfl z_g rfl z_su rfl q_full z_fp z_ss ?_)); clear z_g; refine s_o [(143, _), (152, _)] rfl rfl rfl z_su rfl q_move z_fp z_ss ?_; exact wpS_nil ⟨rfl, rfl⟩)) z_su ?_; clear z_ex)
          ((repeat refine WpM.seq ?_); refine WpM.condF (by (simp (maxSteps := 2000000) (disch := omega) [go_sem, -List.map_map, h4])) ?_)
          refine WpM.skip ?_
          ((repeat refine WpM.seq ?_); have z_ex := True.intro; refine WpM.regPE [] [(6, _)] (by (refine s_o [] rfl rfl rfl z_su rfl q_move z_fp z_ss ?_; exact wpS_nil ⟨rfl, rfl⟩)) z_su ?_; clear z_ex)
          refine WpM.ret ?_
          refine ⟨.inr rfl, Upd.done ⟨_, (by (simp (maxSteps := 2000000) (disch := omega) [go_sem, -List.map_map, resV, resVs, resV1])), fin _ (nx2 + 25) (by omega) (by show nx2 + 25 < nx2 + _; omega) (by (simp (maxSteps := 2000000) (disch := omega) [go_sem, -List.map_map, hnil])) (by (simp (maxSteps := 2000000) (disch := omega) [go_sem, -List.map_map, hnil])) fun m q e1 e2 e3 hk => by (simp (maxSteps := 2000000) (disch := omega) [go_sem, -List.map_map, hk])⟩⟩
        · obtain ⟨w1, w2, w3, w4, w5, w6, w7, w8⟩ := hwk hnil
          have grk : r k < nx := (hO1 _ w3).2
          have hr0 : n0 ≠ r k := fun e => on0 (e ▸ w3)
          have hrL : r k ≠ L := hq6 hnil
          refine WpM.loop (fun (j : Nat) fr S => j ≤ wl.length ∧ (∀ i (h : i < wl.length), i < j → wl[i] ≠ c.arg) ∧ fr = frOf [(0, .ptr L 0), (2, .d (.int .i64 who)), (4, .ptr n0 0), (7, .d (.int .i64 k)), (8, .d (.int .i64 j))] ∧ ∃ nx2, nx ≤ nx2 ∧ S = ⟨nx2, [], G⟩) (fun j => wl.length - j) 0 (St.Le.refl _) (frLe_frOf (by (simp (maxSteps := 2000000) (disch := omega) [go_sem, -List.map_map]))) ⟨by omega, by simp, rfl, _, ?_, rfl⟩ ?_
          · omega
          rintro j fr S2 ⟨hj, hall, rfl, nx2, hnx2, rfl⟩
          ((repeat refine WpM.seq ?_); have z_ex := (And.intro @k1 (And.intro @k8 (And.intro @w1 (And.intro @hkw (And.intro @hwn True.intro))))); refine WpM.regPE [] [(0, _), (2, _), (4, _), (7, _), (8, _), (107, _)] (by (refine s_o [(8, _)] rfl rfl rfl z_su rfl q_move z_fp z_ss ?_; refine s_o [(0, _)] rfl rfl rfl z_su rfl q_move z_fp z_ss ?_; refine s_o [(99, _)] rfl rfl rfl z_su rfl q_move z_fp z_ss ?_; refine s_o [(100, _)] rfl rfl rfl z_su rfl q_fieldAddr z_fp z_ss ?_; refine s_o [(101, _)] rfl rfl rfl z_su rfl q_load z_fp z_ss ?_; refine s_o [(7, _)] rfl rfl rfl z_su rfl q_move z_fp z_ss ?_; refine s_o [(102, _), (103, _)] rfl rfl rfl z_su rfl q_full z_fp z_ss ?_; refine s_o [(104, _)] rfl rfl rfl z_su rfl q_load z_fp z_ss ?_; refine s_o [(105, _)] rfl rfl rfl z_su rfl q_full z_fp z_ss ?_; refine s_o [(98, _), (106, _)] rfl rfl rfl z_su rfl q_full z_fp z_ss ?_; exact wpS_nil ⟨rfl, rfl⟩)) z_su ?_; clear z_ex)
          by_cases hlt : j < wl.length
          · ((repeat refine WpM.seq ?_); refine WpM.condT (by (simp (maxSteps := 2000000) (disch := omega) [go_sem, -List.map_map, hlt])) ?_)
            refine WpM.skip ?_
            ((repeat refine WpM.seq ?_); refine WpM.block ?_)
            have hget : (wl.map fun t => V.d (.int .i64 t))[j]? = some (.d (.int .i64 wl[j])) := by simp [hlt]
            ((repeat refine WpM.seq ?_); have z_ex := (And.intro @k1 (And.intro @k8 (And.intro @w1 (And.intro @w2 (And.intro @hkw (And.intro @hwn (And.intro @hc (And.intro @hget (And.intro @hlt True.intro))))))))); refine WpM.drwPE [] [(0, _), (2, _), (4, _), (7, _), (8, _), (122, _)] mixed (by kernel_rfl) (by kernel_rfl) [] (by kernel_rfl) (by (refine d_o [(0, _)] rfl rfl rfl z_su rfl q_move z_fp z_ss rfl ?_; refine d_o [(110, _)] rfl rfl rfl z_su rfl q_move z_fp z_ss rfl ?_; refine d_o [(111, _)] rfl rfl rfl z_su rfl q_fieldAddr z_fp z_ss rfl ?_; refine d_o [(112, _)] rfl rfl rfl z_su rfl q_load z_fp z_ss rfl ?_; refine d_o [(7, _)] rfl rfl rfl z_su rfl q_move z_fp z_ss rfl ?_; refine d_o [(113, _), (114, _)] rfl rfl rfl z_su rfl q_full z_fp z_ss rfl ?_; refine d_o [(115, _)] rfl rfl rfl z_su rfl q_load z_fp z_ss rfl ?_; refine d_o [(8, _)] rfl rfl rfl z_su rfl q_move z_fp z_ss rfl ?_; refine d_o [(116, _), (117, _)] rfl rfl rfl z_su rfl q_full z_fp z_ss rfl ?_; refine d_o [(118, _)] rfl rfl rfl z_su rfl q_load z_fp z_ss rfl ?_; refine d_o [(4, _)] rfl rfl rfl z_su rfl q_fieldAddr z_fp z_ss rfl ?_; refine d_o [(120, _)] rfl rfl rfl z_su rfl q_load z_fp z_ss rfl ?_; refine d_o [(119, _), (121, _)] rfl rfl rfl z_su rfl q_full z_fp z_ss rfl ?_; exact d_end z_mt z_sn)) z_su ?_; clear z_ex)
            by_cases he : wl[j] = c.arg
            · ((repeat refine WpM.seq ?_); refine WpM.condT (by (simp (maxSteps := 2000000) (disch := omega) [go_sem, -List.map_map, he])) ?_)
              rw [if_pos (by rw [← he]; exact List.getElem_mem _)]
              ((repeat refine WpM.seq ?_); have z_ex := True.intro; refine WpM.regPE [] [(6, _)] (by (refine s_o [] rfl rfl rfl z_su rfl q_move z_fp z_ss ?_; exact wpS_nil ⟨rfl, rfl⟩)) z_su ?_; clear z_ex)
              refine WpM.ret ?_
              refine ⟨.inr rfl, Upd.done ⟨_, (by (simp (maxSteps := 2000000) (disch := omega) [go_sem, -List.map_map, resV, resVs, resV1])), (by show n0 ≤ nx2 + _; omega), fun m k ho hk => ?_, rfl, by decide⟩⟩
              obtain ⟨h1, h2, h3⟩ := oldO m k ho hk
              (simp (maxSteps := 2000000) (disch := omega) [go_sem, -List.map_map, h2])
            · ((repeat refine WpM.seq ?_); refine WpM.condF (by (simp (maxSteps := 2000000) (disch := omega) [go_sem, -List.map_map, he])) ?_)
              refine WpM.skip ?_
              ((repeat refine WpM.seq ?_); have z_ex := (And.intro @wrap_id True.intro); refine WpM.regPE [] [(0, _), (2, _), (4, _), (7, _), (8, _)] (by (refine s_o [(8, _)] rfl rfl rfl z_su rfl q_move z_fp z_ss ?_; refine s_o [(108, _)] rfl rfl rfl z_su rfl q_full z_fp z_ss ?_; refine s_o [(109, _)] rfl rfl rfl z_su rfl q_move z_fp z_ss ?_; exact wpS_nil ⟨rfl, rfl⟩)) z_su ?_; clear z_ex)
              have hall' : ∀ i (h : i < wl.length), i < j + 1 → wl[i] ≠ c.arg := fun i h hi => by
                rcases Nat.lt_or_ge i j with h' | h'
                · exact hall i h h'
                · obtain rfl : i = j := by omega
                  exact he
              refine round_end (x' := j + 1) (St.Le.refl _) (frLe_frOf (by (simp (maxSteps := 2000000) (disch := omega) [go_sem, -List.map_map, wrap_id]))) ⟨by omega, hall', rfl, _, ?_, rfl⟩ (by omega)
              omega
          · ((repeat refine WpM.seq ?_); refine WpM.condF (by (simp (maxSteps := 2000000) (disch := omega) [go_sem, -List.map_map, hlt])) ?_)
            (refine WpM.exit ?_; (repeat (with_reducible (first | refine thenM_exit ?_ | refine blockM_eq ?_ | refine blockM_ne (by decide) ?_))))
            obtain rfl : j = wl.length := by omega
            have hnin : c.arg ∉ wl := fun h => by obtain ⟨i, hi, e⟩ := List.getElem_of_mem h; exact hall i hi hi e
            rw [if_neg hnin]
            have htk : (wl.map fun t => V.d (.int .i64 t)).take wl.length = wl.map fun t => V.d (.int .i64 t) := List.take_of_length_le (by simp)
            ((repeat refine WpM.seq ?_); have z_ex := (And.intro @k1 (And.intro @k8 (And.intro @w1 (And.intro @w2 (And.intro @hkw (And.intro @hwn (And.intro @hc (And.intro @htk True.intro)))))))); refine WpM.drwPE [] [(0, _), (2, _), (4, _), (7, _)] mixed (by kernel_rfl) (by kernel_rfl) [(3, 14), (8, 14), (11, 14), (3, 15)] (by kernel_rfl) (by (refine d_o [(0, _)] rfl rfl rfl z_su rfl q_move z_fp z_ss rfl ?_; refine d_o [(123, _)] rfl rfl rfl z_su rfl q_move z_fp z_ss rfl ?_; refine d_o [(124, _)] rfl rfl rfl z_su rfl q_fieldAddr z_fp z_ss rfl ?_; refine d_o [(125, _)] rfl rfl rfl z_su rfl q_load z_fp z_ss rfl ?_; refine d_o [(7, _)] rfl rfl rfl z_su rfl q_move z_fp z_ss rfl ?_; refine d_o [(0, _)] rfl rfl rfl z_su rfl q_move z_fp z_ss rfl ?_; refine d_o [(128, _)] rfl rfl rfl z_su rfl q_move z_fp z_ss rfl ?_; refine d_o [(129, _)] rfl rfl rfl z_su rfl q_fieldAddr z_fp z_ss rfl ?_; refine d_o [(130, _)] rfl rfl rfl z_su rfl q_load z_fp z_ss rfl ?_; refine d_o [(7, _)] rfl rfl rfl z_su rfl q_move z_fp z_ss rfl ?_; refine d_o [(131, _), (132, _)] rfl rfl rfl z_su rfl q_full z_fp z_ss rfl ?_; refine d_o [(133, _)] rfl rfl rfl z_su rfl q_load z_fp z_ss rfl ?_; refine d_o [(4, _)] rfl rfl rfl z_su rfl q_fieldAddr z_fp z_ss rfl ?_; refine d_o [(135, _)] rfl rfl rfl z_su rfl q_load z_fp z_ss rfl ?_; refine d_o [(136, _)] rfl rfl rfl z_su rfl q_full z_fp z_ss rfl ?_; refine d_o [(134, _), (137, _)] rfl rfl rfl z_su rfl q_full z_fp z_ss rfl ?_; refine d_o [(126, _), (127, _)] rfl rfl rfl z_su rfl q_full z_fp z_ss rfl ?_; refine d_o [(138, _), (139, _)] rfl rfl rfl z_su rfl q_store z_fp z_ss rfl ?_; exact d_end z_mt z_sn)) z_su ?_; clear z_ex)
            ((repeat refine WpM.seq ?_); have z_ex := (And.intro @hc (And.intro @h4 True.intro)); refine WpM.regPE [] [(0, _), (2, _), (7, _), (153, _)] (by (refine s_o [(4, _)] rfl rfl rfl z_su rfl q_fieldAddr z_fp z_ss ?_; refine s_o [(140, _)] rfl rfl rfl z_su rfl q_load z_fp z_ss ?_; refine s_o [(141, _)] rfl rfl rfl z_su rfl q_full z_fp z_ss ?_; refine s_o [(142, _)] rfl rfl rfl z_su rfl q_move z_fp z_ss ?_; refine s_wit ?_; intro z_g; (first | refine s_skip rfl z_g z_fp ?_ | (refine s_o [(0, _)] rfl z_g rfl z_su rfl q_move z_fp z_ss ?_)); clear z_g; refine s_wit ?_; intro z_g; (first | refine s_skip rfl z_g z_fp ?_ | (refine s_o [(144, _)] rfl z_g rfl z_su rfl q_move z_fp z_ss ?_)); clear z_g; refine s_wit ?_; intro z_g; (first | refine s_skip rfl z_g z_fp ?_ | (refine s_o [(145, _)] rfl z_g rfl z_su rfl q_fieldAddr z_fp z_ss ?_)); clear z_g; refine s_wit ?_; intro z_g; (first | refine s_skip rfl z_g z_fp ?_ | (refine s_o [(146, _)] rfl z_g rfl z_su rfl q_load z_fp z_ss ?_)); clear z_g; refine s_wit ?_; intro z_g; (first | refine s_skip rfl z_g z_fp ?_ | (refine s_o [(7, _)] rfl z_g rfl z_su rfl q_move z_fp z_ss ?_)); clear z_g; refine s_wit ?_; intro z_g; (first | refine s_skip rfl z_g z_fp ?_ | (refine s_o [(147, _), (148, _)] rfl z_g rfl z_su rfl q_full z_fp z_ss ?_)); clear z_g; refine s_wit ?_; intro z_g; (first | refine s_skip rfl z_g z_fp ?_ | (refine s_o [(149, _)] rfl z_g rfl z_su rfl q_load z_fp z_ss ?_)); clear z_g; refine s_wit ?_; intro z_g; (first | refine s_skip rfl z_g z_fp ?_ | (refine s_o [(2, _)] rfl z_g rfl z_su rfl q_move z_fp z_ss ?_)); clear z_g; refine s_wit ?_; intro z_g; (first | refine s_skip rfl z_g z_fp ?_ | (refine s_o [(150, _), (151, _)] rfl z_g rfl z_su rfl q_full z_fp z_ss ?_)); clear z_g; refine s_o [(143, _), (152, _)] rfl rfl rfl z_su rfl q_move z_fp z_ss ?_; exact wpS_nil ⟨rfl, rfl⟩)) z_su ?_; clear z_ex)
            ((repeat refine WpM.seq ?_); refine WpM.condF (by (simp (maxSteps := 2000000) (disch := omega) [go_sem, -List.map_map, h4])) ?_)
            refine WpM.skip ?_
            ((repeat refine WpM.seq ?_); have z_ex := True.intro; refine WpM.regPE [] [(6, _)] (by (refine s_o [] rfl rfl rfl z_su rfl q_move z_fp z_ss ?_; exact wpS_nil ⟨rfl, rfl⟩)) z_su ?_; clear z_ex)
            refine WpM.ret ?_
            refine ⟨.inr rfl, Upd.done ⟨_, (by (simp (maxSteps := 2000000) (disch := omega) [go_sem, -List.map_map, resV, resVs, resV1])), fin _ (nx2 + 25) (by omega) (by show nx2 + 25 < nx2 + _; omega) (by (simp (maxSteps := 2000000) (disch := omega) [go_sem, -List.map_map])) (by (simp (maxSteps := 2000000) (disch := omega) [go_sem, -List.map_map])) fun m q e1 e2 e3 hk => by have e4 := e2 hnil; (simp (maxSteps := 2000000) (disch := omega) [go_sem, -List.map_map, hk])⟩⟩
      · ((repeat refine WpM.seq ?_); have z_ex := (And.intro @hc (And.intro @h2 True.intro)); refine WpM.regPE [] [(0, _), (2, _), (4, _), (7, _), (97, _)] (by (refine s_o [(4, _)] rfl rfl rfl z_su rfl q_fieldAddr z_fp z_ss ?_; refine s_o [(90, _)] rfl rfl rfl z_su rfl q_load z_fp z_ss ?_; refine s_o [(91, _)] rfl rfl rfl z_su rfl q_full z_fp z_ss ?_; refine s_o [(92, _)] rfl rfl rfl z_su rfl q_move z_fp z_ss ?_; refine s_wit ?_; intro z_g; (first | refine s_skip rfl z_g z_fp ?_ | (refine s_o [(4, _)] rfl z_g rfl z_su rfl q_fieldAddr z_fp z_ss ?_)); clear z_g; refine s_wit ?_; intro z_g; (first | refine s_skip rfl z_g z_fp ?_ | (refine s_o [(94, _)] rfl z_g rfl z_su rfl q_load z_fp z_ss ?_)); clear z_g; refine s_wit ?_; intro z_g; (first | refine s_skip rfl z_g z_fp ?_ | (refine s_o [(95, _)] rfl z_g rfl z_su rfl q_full z_fp z_ss ?_)); clear z_g; refine s_o [(93, _), (96, _)] rfl rfl rfl z_su rfl q_move z_fp z_ss ?_; exact wpS_nil ⟨rfl, rfl⟩)) z_su ?_; clear z_ex)
        ((repeat refine WpM.seq ?_); refine WpM.condT (by (simp (maxSteps := 2000000) (disch := omega) [go_sem, -List.map_map, h2])) ?_)
        ((repeat refine WpM.seq ?_); have z_ex := True.intro; refine WpM.regPE [] [(0, _), (2, _), (4, _), (7, _), (8, _)] (by (refine s_o [] rfl rfl rfl z_su rfl q_move z_fp z_ss ?_; exact wpS_nil ⟨rfl, rfl⟩)) z_su ?_; clear z_ex)
        ((repeat refine WpM.seq ?_); refine WpM.block ?_)
        by_cases hnil : wl = []
        · have hv := hw0 hnil
          refine WpM.loop (fun (j : Nat) fr S => fr = frOf [(0, .ptr L 0), (2, .d (.int .i64 who)), (4, .ptr n0 0), (7, .d (.int .i64 k)), (8, .d (.int .i64 0))] ∧ ∃ nx2, nx ≤ nx2 ∧ S = ⟨nx2, [], G⟩) (fun j => 0) 0 (St.Le.refl _) (frLe_frOf (by (simp (maxSteps := 2000000) (disch := omega) [go_sem, -List.map_map]))) ⟨rfl, _, ?_, rfl⟩ ?_
          · omega
          rintro j fr S2 ⟨rfl, nx2, hnx2, rfl⟩
          ((repeat refine WpM.seq ?_); have z_ex := (And.intro @k1 (And.intro @k8 (And.intro @hv (And.intro @hkw (And.intro @hwn True.intro))))); refine WpM.regPE [] [(0, _), (2, _), (4, _), (7, _), (8, _), (107, _)] (by (refine s_o [(8, _)] rfl rfl rfl z_su rfl q_move z_fp z_ss ?_; refine s_o [(0, _)] rfl rfl rfl z_su rfl q_move z_fp z_ss ?_; refine s_o [(99, _)] rfl rfl rfl z_su rfl q_move z_fp z_ss ?_; refine s_o [(100, _)] rfl rfl rfl z_su rfl q_fieldAddr z_fp z_ss ?_; refine s_o [(101, _)] rfl rfl rfl z_su rfl q_load z_fp z_ss ?_; refine s_o [(7, _)] rfl rfl rfl z_su rfl q_move z_fp z_ss ?_; refine s_o [(102, _), (103, _)] rfl rfl rfl z_su rfl q_full z_fp z_ss ?_; refine s_o [(104, _)] rfl rfl rfl z_su rfl q_load z_fp z_ss ?_; refine s_o [(105, _)] rfl rfl rfl z_su rfl q_full z_fp z_ss ?_; refine s_o [(98, _), (106, _)] rfl rfl rfl z_su rfl q_full z_fp z_ss ?_; exact wpS_nil ⟨rfl, rfl⟩)) z_su ?_; clear z_ex)
          ((repeat refine WpM.seq ?_); refine WpM.condF (by (simp (maxSteps := 2000000) (disch := omega) [go_sem, -List.map_map])) ?_)
          (refine WpM.exit ?_; (repeat (with_reducible (first | refine thenM_exit ?_ | refine blockM_eq ?_ | refine blockM_ne (by decide) ?_))))
          rw [if_neg (by rw [hnil]; simp)]
          ((repeat refine WpM.seq ?_); have z_ex := (And.intro @k1 (And.intro @k8 (And.intro @hv (And.intro @hkw (And.intro @hwn (And.intro @hc True.intro)))))); refine WpM.drwPE [] [(0, _), (2, _), (4, _), (7, _)] mixed (by kernel_rfl) (by kernel_rfl) [(3, 14), (8, 14), (11, 14), (3, 15)] (by kernel_rfl) (by (refine d_o [(0, _)] rfl rfl rfl z_su rfl q_move z_fp z_ss rfl ?_; refine d_o [(123, _)] rfl rfl rfl z_su rfl q_move z_fp z_ss rfl ?_; refine d_o [(124, _)] rfl rfl rfl z_su rfl q_fieldAddr z_fp z_ss rfl ?_; refine d_o [(125, _)] rfl rfl rfl z_su rfl q_load z_fp z_ss rfl ?_; refine d_o [(7, _)] rfl rfl rfl z_su rfl q_move z_fp z_ss rfl ?_; refine d_o [(0, _)] rfl rfl rfl z_su rfl q_move z_fp z_ss rfl ?_; refine d_o [(128, _)] rfl rfl rfl z_su rfl q_move z_fp z_ss rfl ?_; refine d_o [(129, _)] rfl rfl rfl z_su rfl q_fieldAddr z_fp z_ss rfl ?_; refine d_o [(130, _)] rfl rfl rfl z_su rfl q_load z_fp z_ss rfl ?_; refine d_o [(7, _)] rfl rfl rfl z_su rfl q_move z_fp z_ss rfl ?_; refine d_o [(131, _), (132, _)] rfl rfl rfl z_su rfl q_full z_fp z_ss rfl ?_; refine d_o [(133, _)] rfl rfl rfl z_su rfl q_load z_fp z_ss rfl ?_; refine d_o [(4, _)] rfl rfl rfl z_su rfl q_fieldAddr z_fp z_ss rfl ?_; refine d_o [(135, _)] rfl rfl rfl z_su rfl q_load z_fp z_ss rfl ?_; refine d_o [(136, _)] rfl rfl rfl z_su rfl q_full z_fp z_ss rfl ?_; refine d_o [(134, _), (137, _)] rfl rfl rfl z_su rfl q_full z_fp z_ss rfl ?_; refine d_o [(126, _), (127, _)] rfl rfl rfl z_su rfl q_full z_fp z_ss rfl ?_; refine d_o [(138, _), (139, _)] rfl rfl rfl z_su rfl q_store z_fp z_ss rfl ?_; exact d_end z_mt z_sn)) z_su ?_; clear z_ex)
          ((repeat refine WpM.seq ?_); have z_ex := (And.intro @hc (And.intro @h4 True.intro)); refine WpM.regPE [] [(0, _), (2, _), (7, _), (153, _)] (by (refine s_o [(4, _)] rfl rfl rfl z_su rfl q_fieldAddr z_fp z_ss ?_; refine s_o [(140, _)] rfl rfl rfl z_su rfl q_load z_fp z_ss ?_; refine s_o [(141, _)] rfl rfl rfl z_su rfl q_full z_fp z_ss ?_; refine s_o [(142, _)] rfl rfl rfl z_su rfl q_move z_fp z_ss ?_; refine s_wit ?_; intro z_g; (first | refine s_skip rfl z_g z_fp ?_ | (refine s_o [(0, _)] rfl z_g rfl z_su rfl q_move z_fp z_ss ?_)); clear z_g; refine s_wit ?_; intro z_g; (first | refine s_skip rfl z_g z_fp ?_ | (refine s_o [(144, _)] rfl z_g rfl z_su rfl q_move z_fp z_ss ?_)); clear z_g; refine s_wit ?_; intro z_g; (first | refine s_skip rfl z_g z_fp ?_ | (refine s_o [(145, _)] rfl z_g rfl z_su rfl q_fieldAddr z_fp z_ss ?_)); clear z_g; refine s_wit ?_; intro z_g; (first | refine s_skip rfl z_g z_fp ?_ | (refine s_o [(146, _)] rfl z_g rfl z_su rfl q_load z_fp z_ss ?_)); clear z_g; refine s_wit ?_; intro z_g; (first | refine s_skip rfl z_g z_fp ?_ | (refine s_o [(7, _)] rfl z_g rfl z_su rfl q_move z_fp z_ss ?_)); clear z_g; refine s_wit ?_; intro z_g; (first | refine s_skip rfl z_g z_fp ?_ | (refine s_o [(147, _), (148, _)] rfl z_g rfl z_su rfl q_full z_fp z_ss ?_)); clear z_g; refine s_wit ?_; intro z_g; (first | refine s_skip rfl z_g z_fp ?_ | (refine s_o [(149, _)] rfl z_g rfl z_su rfl q_load z_fp z_ss ?_)); clear z_g; refine s_wit ?_; intro z_g; (first | refine s_skip rfl z_g z_fp ?_ | (refine s_o [(2, _)] rfl z_g rfl z_su rfl q_move z_fp z_ss ?_)); clear z_g; refine s_wit ?_; intro z_g; (first | refine s_skip rfl z_g z_fp ?_ | (refine s_o [(150, _), (151, _)] rfl z_g rfl z_su rfl q_full z_fp z_ss ?_)); clear z_g; refine s_o [(143, _), (152, _)] rfl rfl rfl z_su rfl q_move z_fp z_ss ?_; exact wpS_nil ⟨rfl, rfl⟩)) z_su ?_; clear z_ex)
          ((repeat refine WpM.seq ?_); refine WpM.condF (by (simp (maxSteps := 2000000) (disch := omega) [go_sem, -List.map_map, h4])) ?_)
          refine WpM.skip ?_
          ((repeat refine WpM.seq ?_); have z_ex := True.intro; refine WpM.regPE [] [(6, _)] (by (refine s_o [] rfl rfl rfl z_su rfl q_move z_fp z_ss ?_; exact wpS_nil ⟨rfl, rfl⟩)) z_su ?_; clear z_ex)
          refine WpM.ret ?_
          refine ⟨.inr rfl, Upd.done ⟨_, (by (simp (maxSteps := 2000000) (disch := omega) [go_sem, -List.map_map, resV, resVs, resV1])), fin _ (nx2 + 25) (by omega) (by show nx2 + 25 < nx2 + _; omega) (by (simp (maxSteps := 2000000) (disch := omega) [go_sem, -List.map_map, hnil])) (by (simp (maxSteps := 2000000) (disch := omega) [go_sem, -List.map_map, hnil])) fun m q e1 e2 e3 hk => by (simp (maxSteps := 2000000) (disch := omega) [go_sem, -List.map_map, hk])⟩⟩
        · obtain ⟨w1, w2, w3, w4, w5, w6, w7, w8⟩ := hwk hnil
          have grk : r k < nx := (hO1 _ w3).2
          have hr0 : n0 ≠ r k := fun e => on0 (e ▸ w3)
          have hrL : r k ≠ L := hq6 hnil
          refine WpM.loop (fun (j : Nat) fr S => j ≤ wl.length ∧ (∀ i (h : i < wl.length), i < j → wl[i] ≠ c.arg) ∧ fr = frOf [(0, .ptr L 0), (2, .d (.int .i64 who)), (4, .ptr n0 0), (7, .d (.int .i64 k)), (8, .d (.int .i64 j))] ∧ ∃ nx2, nx ≤ nx2 ∧ S = ⟨nx2, [], G⟩) (fun j => wl.length - j) 0 (St.Le.refl _) (frLe_frOf (by (simp (maxSteps := 2000000) (disch := omega) [go_sem, -List.map_map]))) ⟨by omega, by simp, rfl, _, ?_, rfl⟩ ?_
          · omega
          rintro j fr S2 ⟨hj, hall, rfl, nx2, hnx2, rfl⟩
          ((repeat refine WpM.seq ?_); have z_ex := (And.intro @k1 (And.intro @k8 (And.intro @w1 (And.intro @hkw (And.intro @hwn True.intro))))); refine WpM.regPE [] [(0, _), (2, _), (4, _), (7, _), (8, _), (107, _)] (by (refine s_o [(8, _)] rfl rfl rfl z_su rfl q_move z_fp z_ss ?_; refine s_o [(0, _)] rfl rfl rfl z_su rfl q_move z_fp z_ss ?_; refine s_o [(99, _)] rfl rfl rfl z_su rfl q_move z_fp z_ss ?_; refine s_o [(100, _)] rfl rfl rfl z_su rfl q_fieldAddr z_fp z_ss ?_; refine s_o [(101, _)] rfl rfl rfl z_su rfl q_load z_fp z_ss ?_; refine s_o [(7, _)] rfl rfl rfl z_su rfl q_move z_fp z_ss ?_; refine s_o [(102, _), (103, _)] rfl rfl rfl z_su rfl q_full z_fp z_ss ?_; refine s_o [(104, _)] rfl rfl rfl z_su rfl q_load z_fp z_ss ?_; refine s_o [(105, _)] rfl rfl rfl z_su rfl q_full z_fp z_ss ?_; refine s_o [(98, _), (106, _)] rfl rfl rfl z_su rfl q_full z_fp z_ss ?_; exact wpS_nil ⟨rfl, rfl⟩)) z_su ?_; clear z_ex)
          by_cases hlt : j < wl.length
          · ((repeat refine WpM.seq ?_); refine WpM.condT (by (simp (maxSteps := 2000000) (disch := omega) [go_sem, -List.map_map, hlt])) ?_)
            refine WpM.skip ?_
            ((repeat refine WpM.seq ?_); refine WpM.block ?_)
            have hget : (wl.map fun t => V.d (.int .i64 t))[j]? = some (.d (.int .i64 wl[j])) := by simp [hlt]
            ((repeat refine WpM.seq ?_); have z_ex := (And.intro @k1 (And.intro @k8 (And.intro @w1 (And.intro @w2 (And.intro @hkw (And.intro @hwn (And.intro @hc (And.intro @hget (And.intro @hlt True.intro))))))))); refine WpM.drwPE [] [(0, _), (2, _), (4, _), (7, _), (8, _), (122, _)] mixed (by kernel_rfl) (by kernel_rfl) [] (by kernel_rfl) (by (refine d_o [(0, _)] rfl rfl rfl z_su rfl q_move z_fp z_ss rfl ?_; refine d_o [(110, _)] rfl rfl rfl z_su rfl q_move z_fp z_ss rfl ?_; refine d_o [(111, _)] rfl rfl rfl z_su rfl q_fieldAddr z_fp z_ss rfl ?_; refine d_o [(112, _)] rfl rfl rfl z_su rfl q_load z_fp z_ss rfl ?_; refine d_o [(7, _)] rfl rfl rfl z_su rfl q_move z_fp z_ss rfl ?_; refine d_o [(113, _), (114, _)] rfl rfl rfl z_su rfl q_full z_fp z_ss rfl ?_; refine d_o [(115, _)] rfl rfl rfl z_su rfl q_load z_fp z_ss rfl ?_; refine d_o [(8, _)] rfl rfl rfl z_su rfl q_move z_fp z_ss rfl ?_; refine d_o [(116, _), (117, _)] rfl rfl rfl z_su rfl q_full z_fp z_ss rfl ?_; refine d_o [(118, _)] rfl rfl rfl z_su rfl q_load z_fp z_ss rfl ?_; refine d_o [(4, _)] rfl rfl rfl z_su rfl q_fieldAddr z_fp z_ss rfl ?_; refine d_o [(120, _)] rfl rfl rfl z_su rfl q_load z_fp z_ss rfl ?_; refine d_o [(119, _), (121, _)] rfl rfl rfl z_su rfl q_full z_fp z_ss rfl ?_; exact d_end z_mt z_sn)) z_su ?_; clear z_ex)
            by_cases he : wl[j] = c.arg
            · ((repeat refine WpM.seq ?_); refine WpM.condT (by (simp (maxSteps := 2000000) (disch := omega) [go_sem, -List.map_map, he])) ?_)
              rw [if_pos (by rw [← he]; exact List.getElem_mem _)]
              ((repeat refine WpM.seq ?_); have z_ex := True.intro; refine WpM.regPE [] [(6, _)] (by (refine s_o [] rfl rfl rfl z_su rfl q_move z_fp z_ss ?_; exact wpS_nil ⟨rfl, rfl⟩)) z_su ?_; clear z_ex)
              refine WpM.ret ?_
              refine ⟨.inr rfl, Upd.done ⟨_, (by (simp (maxSteps := 2000000) (disch := omega) [go_sem, -List.map_map, resV, resVs, resV1])), (by show n0 ≤ nx2 + _; omega), fun m k ho hk => ?_, rfl, by decide⟩⟩
              obtain ⟨h1, h2, h3⟩ := oldO m k ho hk
              (simp (maxSteps := 2000000) (disch := omega) [go_sem, -List.map_map, h2])
            · ((repeat refine WpM.seq ?_); refine WpM.condF (by (simp (maxSteps := 2000000) (disch := omega) [go_sem, -List.map_map, he])) ?_)
              refine WpM.skip ?_
              ((repeat refine WpM.seq ?_); have z_ex := (And.intro @wrap_id True.intro); refine WpM.regPE [] [(0, _), (2, _), (4, _), (7, _), (8, _)] (by (refine s_o [(8, _)] rfl rfl rfl z_su rfl q_move z_fp z_ss ?_; refine s_o [(108, _)] rfl rfl rfl z_su rfl q_full z_fp z_ss ?_; refine s_o [(109, _)] rfl rfl rfl z_su rfl q_move z_fp z_ss ?_; exact wpS_nil ⟨rfl, rfl⟩)) z_su ?_; clear z_ex)
              have hall' : ∀ i (h : i < wl.length), i < j + 1 → wl[i] ≠ c.arg := fun i h hi => by
                rcases Nat.lt_or_ge i j with h' | h'
                · exact hall i h h'
                · obtain rfl : i = j := by omega
                  exact he
              refine round_end (x' := j + 1) (St.Le.refl _) (frLe_frOf (by (simp (maxSteps := 2000000) (disch := omega) [go_sem, -List.map_map, wrap_id]))) ⟨by omega, hall', rfl, _, ?_, rfl⟩ (by omega)
              omega
          · ((repeat refine WpM.seq ?_); refine WpM.condF (by (simp (maxSteps := 2000000) (disch := omega) [go_sem, -List.map_map, hlt])) ?_)
            (refine WpM.exit ?_; (repeat (with_reducible (first | refine thenM_exit ?_ | refine blockM_eq ?_ | refine blockM_ne (by decide) ?_))))
            obtain rfl : j = wl.length := by omega
            have hnin : c.arg ∉ wl := fun h => by obtain ⟨i, hi, e⟩ := List.getElem_of_mem h; exact hall i hi hi e
            rw [if_neg hnin]
            have htk : (wl.map fun t => V.d (.int .i64 t)).take wl.length = wl.map fun t => V.d (.int .i64 t) := List.take_of_length_le (by simp)
            ((repeat refine WpM.seq ?_); have z_ex := (And.intro @k1 (And.intro @k8 (And.intro @w1 (And.intro @w2 (And.intro @hkw (And.intro @hwn (And.intro @hc (And.intro @htk True.intro)))))))); refine WpM.drwPE [] [(0, _), (2, _), (4, _), (7, _)] mixed (by kernel_rfl) (by kernel_rfl) [(3, 14), (8, 14), (11, 14), (3, 15)] (by kernel_rfl) (by (refine d_o [(0, _)] rfl rfl rfl z_su rfl q_move z_fp z_ss rfl ?_; refine d_o [(123, _)] rfl rfl rfl z_su rfl q_move z_fp z_ss rfl ?_; refine d_o [(124, _)] rfl rfl rfl z_su rfl q_fieldAddr z_fp z_ss rfl ?_; refine d_o [(125, _)] rfl rfl rfl z_su rfl q_load z_fp z_ss rfl ?_; refine d_o [(7, _)] rfl rfl rfl z_su rfl q_move z_fp z_ss rfl ?_; refine d_o [(0, _)] rfl rfl rfl z_su rfl q_move z_fp z_ss rfl ?_; refine d_o [(128, _)] rfl rfl rfl z_su rfl q_move z_fp z_ss rfl ?_; refine d_o [(129, _)] rfl rfl rfl z_su rfl q_fieldAddr z_fp z_ss rfl ?_; refine d_o [(130, _)] rfl rfl rfl z_su rfl q_load z_fp z_ss rfl ?_; refine d_o [(7, _)] rfl rfl rfl z_su rfl q_move z_fp z_ss rfl ?_; refine d_o [(131, _), (132, _)] rfl rfl rfl z_su rfl q_full z_fp z_ss rfl ?_; refine d_o [(133, _)] rfl rfl rfl z_su rfl q_load z_fp z_ss rfl ?_; refine d_o [(4, _)] rfl rfl rfl z_su rfl q_fieldAddr z_fp z_ss rfl ?_; refine d_o [(135, _)] rfl rfl rfl z_su rfl q_load z_fp z_ss rfl ?_; refine d_o [(136, _)] rfl rfl rfl z_su rfl q_full z_fp z_ss rfl ?_; refine d_o [(134, _), (137, _)] rfl rfl rfl z_su rfl q_full z_fp z_ss rfl ?_; refine d_o [(126, _), (127, _)] rfl rfl rfl z_su rfl q_full z_fp z_ss rfl ?_; refine d_o [(138, _), (139, _)] rfl rfl rfl z_su rfl q_store z_fp z_ss rfl ?_; exact d_end z_mt z_sn)) z_su ?_; clear z_ex)
            ((repeat refine WpM.seq ?_); have z_ex := (And.intro @hc (And.intro @h4 True.intro)); refine WpM.regPE [] [(0, _), (2, _), (7, _), (153, _)] (by (refine s_o [(4, _)] rfl rfl rfl z_su rfl q_fieldAddr z_fp z_ss ?_; refine s_o [(140, _)] rfl rfl rfl z_su rfl q_load z_fp z_ss ?_; refine s_o [(141, _)] rfl rfl rfl z_su rfl q_full z_fp z_ss ?_; refine s_o [(142, _)] rfl rfl rfl z_su rfl q_move z_fp z_ss ?_; refine s_wit ?_; intro z_g; (first | refine s_skip rfl z_g z_fp ?_ | (refine s_o [(0, _)] rfl z_g rfl z_su rfl q_move z_fp z_ss ?_)); clear z_g; refine s_wit ?_; intro z_g; (first | refine s_skip rfl z_g z_fp ?_ | (refine s_o [(144, _)] rfl z_g rfl z_su rfl q_move z_fp z_ss ?_)); clear z_g; refine s_wit ?_; intro z_g; (first | refine s_skip rfl z_g z_fp ?_ | (refine s_o [(145, _)] rfl z_g rfl z_su rfl q_fieldAddr z_fp z_ss ?_)); clear z_g; refine s_wit ?_; intro z_g; (first | refine s_skip rfl z_g z_fp ?_ | (refine s_o [(146, _)] rfl z_g rfl z_su rfl q_load z_fp z_ss ?_)); clear z_g; refine s_wit ?_; intro z_g; (first | refine s_skip rfl z_g z_fp ?_ | (refine s_o [(7, _)] rfl z_g rfl z_su rfl q_move z_fp z_ss ?_)); clear z_g; refine s_wit ?_; intro z_g; (first | refine s_skip rfl z_g z_fp ?_ | (refine s_o [(147, _), (148, _)] rfl z_g rfl z_su rfl q_full z_fp z_ss ?_)); clear z_g; refine s_wit ?_; intro z_g; (first | refine s_skip rfl z_g z_fp ?_ | (refine s_o [(149, _)] rfl z_g rfl z_su rfl q_load z_fp z_ss ?_)); clear z_g; refine s_wit ?_; intro z_g; (first | refine s_skip rfl z_g z_fp ?_ | (refine s_o [(2, _)] rfl z_g rfl z_su rfl q_move z_fp z_ss ?_)); clear z_g; refine s_wit ?_; intro z_g; (first | refine s_skip rfl z_g z_fp ?_ | (refine s_o [(150, _), (151, _)] rfl z_g rfl z_su rfl q_full z_fp z_ss ?_)); clear z_g; refine s_o [(143, _), (152, _)] rfl rfl rfl z_su rfl q_move z_fp z_ss ?_; exact wpS_nil ⟨rfl, rfl⟩)) z_su ?_; clear z_ex)
            ((repeat refine WpM.seq ?_); refine WpM.condF (by (simp (maxSteps := 2000000) (disch := omega) [go_sem, -List.map_map, h4])) ?_)
            refine WpM.skip ?_
            ((repeat refine WpM.seq ?_); have z_ex := True.intro; refine WpM.regPE [] [(6, _)] (by (refine s_o [] rfl rfl rfl z_su rfl q_move z_fp z_ss ?_; exact wpS_nil ⟨rfl, rfl⟩)) z_su ?_; clear z_ex)
            refine WpM.ret ?_
            refine ⟨.inr rfl, Upd.done ⟨_, (by (simp (maxSteps := 2000000) (disch := omega) [go_sem, -List.map_map, resV, resVs, resV1])), fin _ (nx2 + 25) (by omega) (by show nx2 + 25 < nx2 + _; omega) (by (simp (maxSteps := 2000000) (disch := omega) [go_sem, -List.map_map])) (by (simp (maxSteps := 2000000) (disch := omega) [go_sem, -List.map_map])) fun m q e1 e2 e3 hk => by have e4 := e2 hnil; (simp (maxSteps := 2000000) (disch := omega) [go_sem, -List.map_map, hk])⟩⟩
    · rw [if_neg h23]
      have h2 : ¬ c.kind = 2 := fun h => h23 (.inl h)
      have h3 : ¬ c.kind = 3 := fun h => h23 (.inr h)
      ((repeat refine WpM.seq ?_); have z_ex := (And.intro @hc (And.intro @h2 (And.intro @h3 True.intro))); refine WpM.regPE [] [(0, _), (2, _), (4, _), (7, _), (97, _)] (by (refine s_o [(4, _)] rfl rfl rfl z_su rfl q_fieldAddr z_fp z_ss ?_; refine s_o [(90, _)] rfl rfl rfl z_su rfl q_load z_fp z_ss ?_; refine s_o [(91, _)] rfl rfl rfl z_su rfl q_full z_fp z_ss ?_; refine s_o [(92, _)] rfl rfl rfl z_su rfl q_move z_fp z_ss ?_; refine s_wit ?_; intro z_g; (first | refine s_skip rfl z_g z_fp ?_ | (refine s_o [(4, _)] rfl z_g rfl z_su rfl q_fieldAddr z_fp z_ss ?_)); clear z_g; refine s_wit ?_; intro z_g; (first | refine s_skip rfl z_g z_fp ?_ | (refine s_o [(94, _)] rfl z_g rfl z_su rfl q_load z_fp z_ss ?_)); clear z_g; refine s_wit ?_; intro z_g; (first | refine s_skip rfl z_g z_fp ?_ | (refine s_o [(95, _)] rfl z_g rfl z_su rfl q_full z_fp z_ss ?_)); clear z_g; refine s_o [(93, _), (96, _)] rfl rfl rfl z_su rfl q_move z_fp z_ss ?_; exact wpS_nil ⟨rfl, rfl⟩)) z_su ?_; clear z_ex)
      ((repeat refine WpM.seq ?_); refine WpM.condF (by (simp (maxSteps := 2000000) (disch := omega) [go_sem, -List.map_map, h3])) ?_)
      refine WpM.skip ?_
      by_cases h4 : c.kind = 4
      · rw [if_pos h4]
        have hlen8 := hw1.ilen k
        obtain ⟨l, hl⟩ : ∃ l, l = b1.incs.getD k [] := ⟨_, rfl⟩
        have hgl : b1.incs[k] = l := by rw [hl]; simp [hki]
        rw [← hl] at hlen8 ⊢
        obtain ⟨x0, hx0⟩ : ∃ x, x = lastD l := ⟨_, rfl⟩
        obtain ⟨len, hlen⟩ : ∃ n, n = l.length := ⟨_, rfl⟩
        have hg1 : (b1.incs.map fun l => V.d (.int .i64 (lastD l)))[k]? = some (.d (.int .i64 x0)) := by simp [hki, hgl, hx0]
        have hg2 : (b1.incs.map fun l => V.d (.int .i64 l.length))[k]? = some (.d (.int .i64 len)) := by simp [hki, hgl, hlen]
        obtain ⟨R1, hR1⟩ : ∃ R, R = b1.incs.map fun l => V.d (.int .i64 (lastD l)) := ⟨_, rfl⟩
        obtain ⟨R2, hR2⟩ : ∃ R, R = b1.incs.map fun l => V.d (.int .i64 l.length) := ⟨_, rfl⟩
        have hr1 : R1.length = b1.incs.length := by rw [hR1]; simp
        have hr2 : R2.length = b1.incs.length := by rw [hR2]; simp
        have hs2 : ∀ v : V, (R2.set k v)[k]? = some v := fun v => by simp [hr2, hki]
        rw [← hR1] at hg1 k11
        rw [← hR2] at hg2 k10
        by_cases hxw : x0 = who
        · have hinc : incNext l who = l := by
            rw [incNext]
            cases hcl : l.getLast? with
            | none => rw [hx0, lastD, hcl] at hxw; simp at hxw; omega
            | some y => rw [hx0, lastD, hcl] at hxw; simp at hxw; rw [if_pos (by rw [hxw])]
          rw [hinc, if_neg (by omega), hl, set_self]
          ((repeat refine WpM.seq ?_); have z_ex := (And.intro @hc (And.intro @h4 (And.intro @k1 (And.intro @k11 (And.intro @hg1 (And.intro @hki (And.intro @hr1 (And.intro @hxw True.intro)))))))); refine WpM.regPE [] [(0, _), (2, _), (7, _), (153, _)] (by (refine s_o [(4, _)] rfl rfl rfl z_su rfl q_fieldAddr z_fp z_ss ?_; refine s_o [(140, _)] rfl rfl rfl z_su rfl q_load z_fp z_ss ?_; refine s_o [(141, _)] rfl rfl rfl z_su rfl q_full z_fp z_ss ?_; refine s_o [(142, _)] rfl rfl rfl z_su rfl q_move z_fp z_ss ?_; refine s_wit ?_; intro z_g; (first | refine s_skip rfl z_g z_fp ?_ | (refine s_o [(0, _)] rfl z_g rfl z_su rfl q_move z_fp z_ss ?_)); clear z_g; refine s_wit ?_; intro z_g; (first | refine s_skip rfl z_g z_fp ?_ | (refine s_o [(144, _)] rfl z_g rfl z_su rfl q_move z_fp z_ss ?_)); clear z_g; refine s_wit ?_; intro z_g; (first | refine s_skip rfl z_g z_fp ?_ | (refine s_o [(145, _)] rfl z_g rfl z_su rfl q_fieldAddr z_fp z_ss ?_)); clear z_g; refine s_wit ?_; intro z_g; (first | refine s_skip rfl z_g z_fp ?_ | (refine s_o [(146, _)] rfl z_g rfl z_su rfl q_load z_fp z_ss ?_)); clear z_g; refine s_wit ?_; intro z_g; (first | refine s_skip rfl z_g z_fp ?_ | (refine s_o [(7, _)] rfl z_g rfl z_su rfl q_move z_fp z_ss ?_)); clear z_g; refine s_wit ?_; intro z_g; (first | refine s_skip rfl z_g z_fp ?_ | (refine s_o [(147, _), (148, _)] rfl z_g rfl z_su rfl q_full z_fp z_ss ?_)); clear z_g; refine s_wit ?_; intro z_g; (first | refine s_skip rfl z_g z_fp ?_ | (refine s_o [(149, _)] rfl z_g rfl z_su rfl q_load z_fp z_ss ?_)); clear z_g; refine s_wit ?_; intro z_g; (first | refine s_skip rfl z_g z_fp ?_ | (refine s_o [(2, _)] rfl z_g rfl z_su rfl q_move z_fp z_ss ?_)); clear z_g; refine s_wit ?_; intro z_g; (first | refine s_skip rfl z_g z_fp ?_ | (refine s_o [(150, _), (151, _)] rfl z_g rfl z_su rfl q_full z_fp z_ss ?_)); clear z_g; refine s_o [(143, _), (152, _)] rfl rfl rfl z_su rfl q_move z_fp z_ss ?_; exact wpS_nil ⟨rfl, rfl⟩)) z_su ?_; clear z_ex)
          ((repeat refine WpM.seq ?_); refine WpM.condF (by (simp (maxSteps := 2000000) (disch := omega) [go_sem, -List.map_map, hxw])) ?_)
          refine WpM.skip ?_
          ((repeat refine WpM.seq ?_); have z_ex := True.intro; refine WpM.regPE [] [(6, _)] (by (refine s_o [] rfl rfl rfl z_su rfl q_move z_fp z_ss ?_; exact wpS_nil ⟨rfl, rfl⟩)) z_su ?_; clear z_ex)
          refine WpM.ret ?_
          refine ⟨.inr rfl, Upd.done ⟨_, (by (simp (maxSteps := 2000000) (disch := omega) [go_sem, -List.map_map, resV, resVs, resV1])), (by show n0 ≤ nx + _; omega), fun m k ho hk => ?_, rfl, O1, fun m hm => ⟨(hO1 m hm).1.imp id (fun h => by omega), ?_⟩, BookAt.same (G := G) ⟨nk, nt, nw, ni, nl, ws, r, hN⟩ fun m k ho hk => ?_⟩⟩
          · obtain ⟨h1, h2, h3⟩ := oldO m k ho hk
            (simp (maxSteps := 2000000) (disch := omega) [go_sem, -List.map_map, h2])
          · have := (hO1 m hm).2; show m < nx + _; omega
          · have h2 := (hO1 _ ho).2
            (simp (maxSteps := 2000000) (disch := omega) [go_sem, -List.map_map, hk])
        · have hinc : incNext l who = b1.incs.getD k [] ++ [who] := by
            rw [incNext, ← hl, if_neg]
            intro hcl
            rw [hx0, lastD, hcl] at hxw
            exact hxw rfl
          have hill : (b1.incs.getD k [] ++ [who]).length = len + 1 := by rw [← hl]; simp [hlen]
          rw [hinc, hill]
          ((repeat refine WpM.seq ?_); have z_ex := (And.intro @hc (And.intro @h4 (And.intro @k1 (And.intro @k11 (And.intro @hg1 (And.intro @hki (And.intro @hr1 (And.intro @hxw True.intro)))))))); refine WpM.regPE [] [(0, _), (2, _), (7, _), (153, _)] (by (refine s_o [(4, _)] rfl rfl rfl z_su rfl q_fieldAddr z_fp z_ss ?_; refine s_o [(140, _)] rfl rfl rfl z_su rfl q_load z_fp z_ss ?_; refine s_o [(141, _)] rfl rfl rfl z_su rfl q_full z_fp z_ss ?_; refine s_o [(142, _)] rfl rfl rfl z_su rfl q_move z_fp z_ss ?_; refine s_wit ?_; intro z_g; (first | refine s_skip rfl z_g z_fp ?_ | (refine s_o [(0, _)] rfl z_g rfl z_su rfl q_move z_fp z_ss ?_)); clear z_g; refine s_wit ?_; intro z_g; (first | refine s_skip rfl z_g z_fp ?_ | (refine s_o [(144, _)] rfl z_g rfl z_su rfl q_move z_fp z_ss ?_)); clear z_g; refine s_wit ?_; intro z_g; (first | refine s_skip rfl z_g z_fp ?_ | (refine s_o [(145, _)] rfl z_g rfl z_su rfl q_fieldAddr z_fp z_ss ?_)); clear z_g; refine s_wit ?_; intro z_g; (first | refine s_skip rfl z_g z_fp ?_ | (refine s_o [(146, _)] rfl z_g rfl z_su rfl q_load z_fp z_ss ?_)); clear z_g; refine s_wit ?_; intro z_g; (first | refine s_skip rfl z_g z_fp ?_ | (refine s_o [(7, _)] rfl z_g rfl z_su rfl q_move z_fp z_ss ?_)); clear z_g; refine s_wit ?_; intro z_g; (first | refine s_skip rfl z_g z_fp ?_ | (refine s_o [(147, _), (148, _)] rfl z_g rfl z_su rfl q_full z_fp z_ss ?_)); clear z_g; refine s_wit ?_; intro z_g; (first | refine s_skip rfl z_g z_fp ?_ | (refine s_o [(149, _)] rfl z_g rfl z_su rfl q_load z_fp z_ss ?_)); clear z_g; refine s_wit ?_; intro z_g; (first | refine s_skip rfl z_g z_fp ?_ | (refine s_o [(2, _)] rfl z_g rfl z_su rfl q_move z_fp z_ss ?_)); clear z_g; refine s_wit ?_; intro z_g; (first | refine s_skip rfl z_g z_fp ?_ | (refine s_o [(150, _), (151, _)] rfl z_g rfl z_su rfl q_full z_fp z_ss ?_)); clear z_g; refine s_o [(143, _), (152, _)] rfl rfl rfl z_su rfl q_move z_fp z_ss ?_; exact wpS_nil ⟨rfl, rfl⟩)) z_su ?_; clear z_ex)
          ((repeat refine WpM.seq ?_); refine WpM.condT (by (simp (maxSteps := 2000000) (disch := omega) [go_sem, -List.map_map, hxw])) ?_)
          ((repeat refine WpM.seq ?_); have z_ex := (And.intro @k1 (And.intro @k11 (And.intro @hki (And.intro @hr1 (And.intro @hg1 True.intro))))); refine WpM.regPE [] [(0, _), (7, _)] (by (refine s_o [(0, _)] rfl rfl rfl z_su rfl q_move z_fp z_ss ?_; refine s_o [(154, _)] rfl rfl rfl z_su rfl q_move z_fp z_ss ?_; refine s_o [(155, _)] rfl rfl rfl z_su rfl q_fieldAddr z_fp z_ss ?_; refine s_o [(156, _)] rfl rfl rfl z_su rfl q_load z_fp z_ss ?_; refine s_o [(7, _)] rfl rfl rfl z_su rfl q_move z_fp z_ss ?_; refine s_o [(2, _)] rfl rfl rfl z_su rfl q_move z_fp z_ss ?_; refine s_o [(157, _), (158, _)] rfl rfl rfl z_su rfl q_full z_fp z_ss ?_; refine s_o [(159, _), (160, _)] rfl rfl rfl z_su rfl q_store z_fp z_ss ?_; exact wpS_nil ⟨rfl, rfl⟩)) z_su ?_; clear z_ex)
          ((repeat refine WpM.seq ?_); have z_ex := (And.intro @k1 (And.intro @k10 (And.intro @hki (And.intro @hr2 (And.intro @hg2 (And.intro @wrap_id True.intro)))))); refine WpM.regPE [] [(0, _), (7, _)] (by (refine s_o [(0, _)] rfl rfl rfl z_su rfl q_move z_fp z_ss ?_; refine s_o [(161, _)] rfl rfl rfl z_su rfl q_move z_fp z_ss ?_; refine s_o [(162, _)] rfl rfl rfl z_su rfl q_fieldAddr z_fp z_ss ?_; refine s_o [(163, _)] rfl rfl rfl z_su rfl q_load z_fp z_ss ?_; refine s_o [(7, _)] rfl rfl rfl z_su rfl q_move z_fp z_ss ?_; refine s_o [(164, _), (165, _)] rfl rfl rfl z_su rfl q_full z_fp z_ss ?_; refine s_o [(166, _)] rfl rfl rfl z_su rfl q_load z_fp z_ss ?_; refine s_o [(167, _)] rfl rfl rfl z_su rfl q_full z_fp z_ss ?_; refine s_o [(164, _), (165, _)] rfl rfl rfl z_su rfl q_full z_fp z_ss ?_; refine s_o [(168, _), (169, _)] rfl rfl rfl z_su rfl q_store z_fp z_ss ?_; exact wpS_nil ⟨rfl, rfl⟩)) z_su ?_; clear z_ex)
          ((repeat refine WpM.seq ?_); have z_ex := (And.intro @k1 (And.intro @k10 (And.intro @hki (And.intro @hr2 (And.intro @hs2 True.intro))))); refine WpM.regPE [] [(177, _)] (by (refine s_o [(0, _)] rfl rfl rfl z_su rfl q_move z_fp z_ss ?_; refine s_o [(170, _)] rfl rfl rfl z_su rfl q_move z_fp z_ss ?_; refine s_o [(171, _)] rfl rfl rfl z_su rfl q_fieldAddr z_fp z_ss ?_; refine s_o [(172, _)] rfl rfl rfl z_su rfl q_load z_fp z_ss ?_; refine s_o [(7, _)] rfl rfl rfl z_su rfl q_move z_fp z_ss ?_; refine s_o [(173, _), (174, _)] rfl rfl rfl z_su rfl q_full z_fp z_ss ?_; refine s_o [(175, _)] rfl rfl rfl z_su rfl q_load z_fp z_ss ?_; refine s_o [(176, _)] rfl rfl rfl z_su rfl q_full z_fp z_ss ?_; exact wpS_nil ⟨rfl, rfl⟩)) z_su ?_; clear z_ex)
          by_cases h8 : 8 < len + 1
          · rw [if_pos h8]
            have h8' : (8 : Int) < len + 1 := by omega
            ((repeat refine WpM.seq ?_); refine WpM.condT (by (simp (maxSteps := 2000000) (disch := omega) [go_sem, -List.map_map, h8'])) ?_)
            ((repeat refine WpM.seq ?_); have z_ex := True.intro; refine WpM.regPE [] [(6, _)] (by (refine s_o [] rfl rfl rfl z_su rfl q_move z_fp z_ss ?_; exact wpS_nil ⟨rfl, rfl⟩)) z_su ?_; clear z_ex)
            refine WpM.ret ?_
            refine ⟨.inr rfl, Upd.done ⟨_, (by (simp (maxSteps := 2000000) (disch := omega) [go_sem, -List.map_map, resV, resVs, resV1])), (by show n0 ≤ nx + _; omega), fun m k ho hk => ?_, rfl, by decide⟩⟩
            have h5 := onO _ hN.oi m k ho hk
            have h6 := onO _ hN.ol m k ho hk
            obtain ⟨h1, h2, h3⟩ := oldO m k ho hk
            (simp (maxSteps := 2000000) (disch := omega) [go_sem, -List.map_map, h2])
          · rw [if_neg h8]
            have h8' : (len : Int) + 1 ≤ 8 := by omega
            ((repeat refine WpM.seq ?_); refine WpM.condF (by (simp (maxSteps := 2000000) (disch := omega) [go_sem, -List.map_map, h8'])) ?_)
            refine WpM.skip ?_
            ((repeat refine WpM.seq ?_); have z_ex := True.intro; refine WpM.regPE [] [(6, _)] (by (refine s_o [] rfl rfl rfl z_su rfl q_move z_fp z_ss ?_; exact wpS_nil ⟨rfl, rfl⟩)) z_su ?_; clear z_ex)
            refine WpM.ret ?_
            refine ⟨.inr rfl, Upd.done ⟨_, (by (simp (maxSteps := 2000000) (disch := omega) [go_sem, -List.map_map, resV, resVs, resV1])), (by show n0 ≤ nx + _; omega), fun m k ho hk => ?_, rfl, O1, fun m hm => ⟨(hO1 m hm).1.imp id (fun h => by omega), ?_⟩, hN.inc hw1 (by rw [← hl, ← hR2, ← hlen]; (simp (maxSteps := 2000000) (disch := omega) [go_sem, -List.map_map])) (by rw [← hR1]; (simp (maxSteps := 2000000) (disch := omega) [go_sem, -List.map_map])) fun m q h5 h6 ho hk => ?_⟩⟩
            · have h5 := onO _ hN.oi m k ho hk
              have h6 := onO _ hN.ol m k ho hk
              obtain ⟨h1, h2, h3⟩ := oldO m k ho hk
              (simp (maxSteps := 2000000) (disch := omega) [go_sem, -List.map_map, h2])
            · have := (hO1 m hm).2; show m < nx + _; omega
            · have h2 := (hO1 _ ho).2
              (simp (maxSteps := 2000000) (disch := omega) [go_sem, -List.map_map, hk])
      · rw [if_neg h4]
        ((repeat refine WpM.seq ?_); have z_ex := (And.intro @hc (And.intro @h4 True.intro)); refine WpM.regPE [] [(0, _), (2, _), (7, _), (153, _)] (by (refine s_o [(4, _)] rfl rfl rfl z_su rfl q_fieldAddr z_fp z_ss ?_; refine s_o [(140, _)] rfl rfl rfl z_su rfl q_load z_fp z_ss ?_; refine s_o [(141, _)] rfl rfl rfl z_su rfl q_full z_fp z_ss ?_; refine s_o [(142, _)] rfl rfl rfl z_su rfl q_move z_fp z_ss ?_; refine s_wit ?_; intro z_g; (first | refine s_skip rfl z_g z_fp ?_ | (refine s_o [(0, _)] rfl z_g rfl z_su rfl q_move z_fp z_ss ?_)); clear z_g; refine s_wit ?_; intro z_g; (first | refine s_skip rfl z_g z_fp ?_ | (refine s_o [(144, _)] rfl z_g rfl z_su rfl q_move z_fp z_ss ?_)); clear z_g; refine s_wit ?_; intro z_g; (first | refine s_skip rfl z_g z_fp ?_ | (refine s_o [(145, _)] rfl z_g rfl z_su rfl q_fieldAddr z_fp z_ss ?_)); clear z_g; refine s_wit ?_; intro z_g; (first | refine s_skip rfl z_g z_fp ?_ | (refine s_o [(146, _)] rfl z_g rfl z_su rfl q_load z_fp z_ss ?_)); clear z_g; refine s_wit ?_; intro z_g; (first | refine s_skip rfl z_g z_fp ?_ | (refine s_o [(7, _)] rfl z_g rfl z_su rfl q_move z_fp z_ss ?_)); clear z_g; refine s_wit ?_; intro z_g; (first | refine s_skip rfl z_g z_fp ?_ | (refine s_o [(147, _), (148, _)] rfl z_g rfl z_su rfl q_full z_fp z_ss ?_)); clear z_g; refine s_wit ?_; intro z_g; (first | refine s_skip rfl z_g z_fp ?_ | (refine s_o [(149, _)] rfl z_g rfl z_su rfl q_load z_fp z_ss ?_)); clear z_g; refine s_wit ?_; intro z_g; (first | refine s_skip rfl z_g z_fp ?_ | (refine s_o [(2, _)] rfl z_g rfl z_su rfl q_move z_fp z_ss ?_)); clear z_g; refine s_wit ?_; intro z_g; (first | refine s_skip rfl z_g z_fp ?_ | (refine s_o [(150, _), (151, _)] rfl z_g rfl z_su rfl q_full z_fp z_ss ?_)); clear z_g; refine s_o [(143, _), (152, _)] rfl rfl rfl z_su rfl q_move z_fp z_ss ?_; exact wpS_nil ⟨rfl, rfl⟩)) z_su ?_; clear z_ex)
        ((repeat refine WpM.seq ?_); refine WpM.condF (by (simp (maxSteps := 2000000) (disch := omega) [go_sem, -List.map_map, h4])) ?_)
        refine WpM.skip ?_
        ((repeat refine WpM.seq ?_); have z_ex := True.intro; refine WpM.regPE [] [(6, _)] (by (refine s_o [] rfl rfl rfl z_su rfl q_move z_fp z_ss ?_; exact wpS_nil ⟨rfl, rfl⟩)) z_su ?_; clear z_ex)
        refine WpM.ret ?_
        refine ⟨.inr rfl, Upd.done ⟨_, (by (simp (maxSteps := 2000000) (disch := omega) [go_sem, -List.map_map, resV, resVs, resV1])), (by show n0 ≤ nx + _; omega), fun m k ho hk => ?_, rfl, O1, fun m hm => ⟨(hO1 m hm).1.imp id (fun h => by omega), ?_⟩, BookAt.same (G := G) ⟨nk, nt, nw, ni, nl, ws, r, hN⟩ fun m k ho hk => ?_⟩⟩
        · obtain ⟨h1, h2, h3⟩ := oldO m k ho hk
          (simp (maxSteps := 2000000) (disch := omega) [go_sem, -List.map_map, h2])
        · have := (hO1 m hm).2; show m < nx + _; omega
        · have h2 := (hO1 _ ho).2
          (simp (maxSteps := 2000000) (disch := omega) [go_sem, -List.map_map, hk])
  · ((repeat refine WpM.seq ?_); refine WpM.condT (by (simp (maxSteps := 2000000) (disch := omega) [go_sem, -List.map_map, hty])) ?_)
    have hput : putB b1 k c who = .error 50 := by rw [putB, ← hty0, if_pos hty]
    rw [hput]
    ((repeat refine WpM.seq ?_); have z_ex := True.intro; refine WpM.regPE [] [(6, _)] (by (refine s_o [] rfl rfl rfl z_su rfl q_move z_fp z_ss ?_; exact wpS_nil ⟨rfl, rfl⟩)) z_su ?_; clear z_ex)
    refine WpM.ret ?_
    refine ⟨.inr rfl, Upd.done ⟨_, (by (simp (maxSteps := 2000000) (disch := omega) [go_sem, -List.map_map, resV, resVs, resV1])), (by show n0 ≤ nx + _; omega), fun m k ho hk => ?_, rfl, by decide⟩⟩
    obtain ⟨h1, h2, h3⟩ := oldO m k ho hk
    (simp (maxSteps := 2000000) (disch := omega) [go_sem, -List.map_map, h2])
end Go.Proofs.Ytjjmedgibcffhaa
/- assizeref05.Check. -/
namespace Go.Proofs.Ytjjmedgibcffhaa
open Go.RowKit M
set_option linter.unusedSimpArgs false
set_option linter.unusedVariables false
def histB' (h : HistD) : Blk := .box [.d (strs h.keys), .d (.sl (h.txns.map encTxn))]
theorem errno_f' : errnoOf false = 1 := rfl
theorem errno_t' : errnoOf true = 0 := rfl
theorem book_new {G : Nat → Option Blk} {L k1 k2 k3 k4 k5 : Nat} {O : Nat → Prop} (hL : G L = some (.box [.ms k1 1 0 0, .ms k2 1 0 0, .ms k3 1 0 0, .ms k4 1 0 0, .ms k5 1 0 0]))
    (h1 : G k1 = some (.row 1 [])) (h2 : G k2 = some (.row 1 [])) (h3 : G k3 = some (.row 1 [])) (h4 : G k4 = some (.row 1 [])) (h5 : G k5 = some (.row 1 []))
    (hne : k1 ≠ k2 ∧ k1 ≠ k3 ∧ k1 ≠ k4 ∧ k1 ≠ k5 ∧ k2 ≠ k3 ∧ k2 ≠ k4 ∧ k2 ≠ k5 ∧ k3 ≠ k4 ∧ k3 ≠ k5 ∧ k4 ≠ k5) (o : O L ∧ O k1 ∧ O k2 ∧ O k3 ∧ O k4 ∧ O k5) : BookAt G L Bk.empty O :=
  ⟨k1, k2, k3, k4, k5, [], fun _ => 0, hL, h1, h2, h3, h4, h5, rfl, fun k hk => by simp at hk, fun k hk => absurd (by simp [Bk.empty]) hk, fun k k' hk => absurd (by simp [Bk.empty]) hk, o.1, o.2.1, o.2.2.1, o.2.2.2.1, o.2.2.2.2.1, o.2.2.2.2.2, hne⟩
theorem check45_one {keys : List ByteArray} (hk : SlOk (fun s => s.size ≤ 140737488351232) 16 keys) {t : TxnD} (ht : TxnOk t) (hl : t.ops.length ≤ 16) : PureC Try.prog 45 [.d (evs [evOf keys t])] (.d (.int .i64 (if eventOk (evOf keys t) then 0 else 1))) := by
  have := check45 [evOf keys t] (evOf_ok hk ht (by simp only [evOf, List.length_map]; have := (List.takeWhile_sublist (okKey keys.length) (l := t.ops)).length_le; omega))
  rw [listOk_one] at this
  exact this
set_option maxHeartbeats 8000000 in
theorem check33 (h : HistD) (hh : HistOk h) : PureC Try.prog 33 [.d (encHist h)] (.d (.int .i64 (errnoOf (checkB h)))) := by
  intro S
  refine CallM.pure' (by rfl) (CallM.start (n := 111) Try.func33 rfl rfl (by simp) (by simp only [argL, Nat.reduceAdd] <;> rfl) ?_)
  intro hH
  obtain ⟨H, hHe⟩ : ∃ H, H = S.get := ⟨_, rfl⟩
  obtain ⟨n0, hne⟩ : ∃ n0, n0 = S.next := ⟨_, rfl⟩
  rw [← hHe, ← hne] at hH ⊢
  have hb := hh.b
  have hb1 := hb.keys
  have hb2 := hb.len
  have hnames := names55 h.keys (by omega)
  obtain ⟨nm, hnm⟩ : ∃ nm, nm = namesB h.keys := ⟨_, rfl⟩
  rw [← hnm] at hnames
  ((repeat refine WpM.seq ?_); have z_ex := (And.intro @encHist.eq_1 True.intro); refine WpM.regPE [] [(1, _)] (by (refine s_o [(0, _)] rfl rfl rfl z_su rfl q_box z_fp z_ss ?_; refine s_o [] rfl rfl rfl z_su rfl q_move z_fp z_ss ?_; exact wpS_nil ⟨rfl, rfl⟩)) z_su ?_; clear z_ex)
  cases nm with
  | false =>
    have hr : checkB h = false := by rw [checkB, ← hnm]; rfl
    rw [hr, errno_f']
    ((repeat refine WpM.seq ?_); have z_ex := True.intro; refine WpM.regPE [] [(1, _), (19, _)] (by (refine s_o [(1, _)] rfl rfl rfl z_su rfl q_fieldAddr z_fp z_ss ?_; refine s_o [(10, _)] rfl rfl rfl z_su rfl q_load z_fp z_ss ?_; refine s_pure (callOf_eq rfl rfl rfl (mlk_tmp z_lk mlk_nil)) (hnames) rfl rfl z_ip z_fp ?_; refine s_o [(12, _)] rfl rfl rfl z_su rfl q_unOp z_fp z_ss ?_; refine s_o [(13, _)] rfl rfl rfl z_su rfl q_move z_fp z_ss ?_; refine s_wit ?_; intro z_g; (first | refine s_skip rfl z_g z_fp ?_ | (refine s_o [(1, _)] rfl z_g rfl z_su rfl q_fieldAddr z_fp z_ss ?_)); clear z_g; refine s_wit ?_; intro z_g; (first | refine s_skip rfl z_g z_fp ?_ | (refine s_o [(15, _)] rfl z_g rfl z_su rfl q_load z_fp z_ss ?_)); clear z_g; refine s_wit ?_; intro z_g; (first | refine s_skip rfl z_g z_fp ?_ | (refine s_o [(16, _)] rfl z_g rfl z_su rfl q_full z_fp z_ss ?_)); clear z_g; refine s_wit ?_; intro z_g; (first | refine s_skip rfl z_g z_fp ?_ | (refine s_o [(17, _)] rfl z_g rfl z_su rfl q_full z_fp z_ss ?_)); clear z_g; refine s_o [(14, _), (18, _)] rfl rfl rfl z_su rfl q_move z_fp z_ss ?_; exact wpS_nil ⟨rfl, rfl⟩)) z_su ?_; clear z_ex)
    ((repeat refine WpM.seq ?_); refine WpM.condT (by (simp (maxSteps := 2000000) (disch := omega) [go_sem, -List.map_map])) ?_)
    ((repeat refine WpM.seq ?_); have z_ex := True.intro; refine WpM.regPE [] [(2, _)] (by (refine s_o [] rfl rfl rfl z_su rfl q_move z_fp z_ss ?_; exact wpS_nil ⟨rfl, rfl⟩)) z_su ?_; clear z_ex)
    refine WpM.ret ?_
    exact ⟨.inr rfl, Upd.done ⟨_, (by (simp (maxSteps := 2000000) (disch := omega) [go_sem, -List.map_map, resV, resVs, resV1])), rfl, fun m k _ hk => by have := hH _ _ hk; (simp (maxSteps := 2000000) (disch := omega) [go_sem, -List.map_map, hk])⟩⟩
  | true =>
  by_cases ht32 : 32 < h.txns.length
  · have hr : checkB h = false := by simp [checkB, Nat.not_le.2 ht32]
    rw [hr, errno_f']
    have ht32' : (32 : Int) < h.txns.length := by omega
    ((repeat refine WpM.seq ?_); have z_ex := (And.intro @ht32' True.intro); refine WpM.regPE [] [(1, _), (19, _)] (by (refine s_o [(1, _)] rfl rfl rfl z_su rfl q_fieldAddr z_fp z_ss ?_; refine s_o [(10, _)] rfl rfl rfl z_su rfl q_load z_fp z_ss ?_; refine s_pure (callOf_eq rfl rfl rfl (mlk_tmp z_lk mlk_nil)) (hnames) rfl rfl z_ip z_fp ?_; refine s_o [(12, _)] rfl rfl rfl z_su rfl q_unOp z_fp z_ss ?_; refine s_o [(13, _)] rfl rfl rfl z_su rfl q_move z_fp z_ss ?_; refine s_wit ?_; intro z_g; (first | refine s_skip rfl z_g z_fp ?_ | (refine s_o [(1, _)] rfl z_g rfl z_su rfl q_fieldAddr z_fp z_ss ?_)); clear z_g; refine s_wit ?_; intro z_g; (first | refine s_skip rfl z_g z_fp ?_ | (refine s_o [(15, _)] rfl z_g rfl z_su rfl q_load z_fp z_ss ?_)); clear z_g; refine s_wit ?_; intro z_g; (first | refine s_skip rfl z_g z_fp ?_ | (refine s_o [(16, _)] rfl z_g rfl z_su rfl q_full z_fp z_ss ?_)); clear z_g; refine s_wit ?_; intro z_g; (first | refine s_skip rfl z_g z_fp ?_ | (refine s_o [(17, _)] rfl z_g rfl z_su rfl q_full z_fp z_ss ?_)); clear z_g; refine s_o [(14, _), (18, _)] rfl rfl rfl z_su rfl q_move z_fp z_ss ?_; exact wpS_nil ⟨rfl, rfl⟩)) z_su ?_; clear z_ex)
    ((repeat refine WpM.seq ?_); refine WpM.condT (by (simp (maxSteps := 2000000) (disch := omega) [go_sem, -List.map_map, ht32'])) ?_)
    ((repeat refine WpM.seq ?_); have z_ex := True.intro; refine WpM.regPE [] [(2, _)] (by (refine s_o [] rfl rfl rfl z_su rfl q_move z_fp z_ss ?_; exact wpS_nil ⟨rfl, rfl⟩)) z_su ?_; clear z_ex)
    refine WpM.ret ?_
    exact ⟨.inr rfl, Upd.done ⟨_, (by (simp (maxSteps := 2000000) (disch := omega) [go_sem, -List.map_map, resV, resVs, resV1])), rfl, fun m k _ hk => by have := hH _ _ hk; (simp (maxSteps := 2000000) (disch := omega) [go_sem, -List.map_map, hk])⟩⟩
  have ht32' : ¬ (32 : Int) < h.txns.length := by omega
  have ht32'' : (h.txns.length : Int) ≤ 32 := by omega
  ((repeat refine WpM.seq ?_); have z_ex := (And.intro @ht32' (And.intro @ht32'' True.intro)); refine WpM.regPE [] [(1, _), (19, _)] (by (refine s_o [(1, _)] rfl rfl rfl z_su rfl q_fieldAddr z_fp z_ss ?_; refine s_o [(10, _)] rfl rfl rfl z_su rfl q_load z_fp z_ss ?_; refine s_pure (callOf_eq rfl rfl rfl (mlk_tmp z_lk mlk_nil)) (hnames) rfl rfl z_ip z_fp ?_; refine s_o [(12, _)] rfl rfl rfl z_su rfl q_unOp z_fp z_ss ?_; refine s_o [(13, _)] rfl rfl rfl z_su rfl q_move z_fp z_ss ?_; refine s_wit ?_; intro z_g; (first | refine s_skip rfl z_g z_fp ?_ | (refine s_o [(1, _)] rfl z_g rfl z_su rfl q_fieldAddr z_fp z_ss ?_)); clear z_g; refine s_wit ?_; intro z_g; (first | refine s_skip rfl z_g z_fp ?_ | (refine s_o [(15, _)] rfl z_g rfl z_su rfl q_load z_fp z_ss ?_)); clear z_g; refine s_wit ?_; intro z_g; (first | refine s_skip rfl z_g z_fp ?_ | (refine s_o [(16, _)] rfl z_g rfl z_su rfl q_full z_fp z_ss ?_)); clear z_g; refine s_wit ?_; intro z_g; (first | refine s_skip rfl z_g z_fp ?_ | (refine s_o [(17, _)] rfl z_g rfl z_su rfl q_full z_fp z_ss ?_)); clear z_g; refine s_o [(14, _), (18, _)] rfl rfl rfl z_su rfl q_move z_fp z_ss ?_; exact wpS_nil ⟨rfl, rfl⟩)) z_su ?_; clear z_ex)
  ((repeat refine WpM.seq ?_); refine WpM.condF (by (simp (maxSteps := 2000000) (disch := omega) [go_sem, -List.map_map, ht32', ht32''])) ?_)
  refine WpM.skip ?_
  ((repeat refine WpM.seq ?_); have z_ex := True.intro; refine WpM.regPE [] [(1, _), (3, _)] (by (refine s_o [] rfl rfl rfl z_su rfl q_build z_fp z_ss ?_; refine s_o [(20, _)] rfl rfl rfl z_su rfl q_box z_fp z_ss ?_; refine s_o [(21, _)] rfl rfl rfl z_su rfl q_move z_fp z_ss ?_; exact wpS_nil ⟨rfl, rfl⟩)) z_su ?_; clear z_ex)
  refine Upd.wp (Upd.ghostIn (n0 + 12) 0 1 (cs := [.nil, .nil, .nil, .nil, .nil]) (by (simp (maxSteps := 2000000) (disch := omega) [go_sem, -List.map_map])) (.inl rfl) (Upd.ghostIn (n0 + 12) 1 1 (cs := [.ms (n0 + 14) 1 0 0, .nil, .nil, .nil, .nil]) (by (simp (maxSteps := 2000000) (disch := omega) [go_sem, -List.map_map])) (.inl rfl) (Upd.ghostIn (n0 + 12) 2 1 (cs := [.ms (n0 + 14) 1 0 0, .ms (n0 + 15) 1 0 0, .nil, .nil, .nil]) (by (simp (maxSteps := 2000000) (disch := omega) [go_sem, -List.map_map])) (.inl rfl) (Upd.ghostIn (n0 + 12) 3 1 (cs := [.ms (n0 + 14) 1 0 0, .ms (n0 + 15) 1 0 0, .ms (n0 + 16) 1 0 0, .nil, .nil]) (by (simp (maxSteps := 2000000) (disch := omega) [go_sem, -List.map_map])) (.inl rfl) (Upd.ghostIn (n0 + 12) 4 1 (cs := [.ms (n0 + 14) 1 0 0, .ms (n0 + 15) 1 0 0, .ms (n0 + 16) 1 0 0, .ms (n0 + 17) 1 0 0, .nil]) (by (simp (maxSteps := 2000000) (disch := omega) [go_sem, -List.map_map])) (.inl rfl) (Upd.done ?_))))))
  refine WpM.less (St.Le.refl _) (frLe_frOf (l := [(1, .ptr n0 0), (3, .ptr (n0 + 12) 0)]) (by (simp (maxSteps := 2000000) (disch := omega) [go_sem, -List.map_map]))) ?_
  refine WpM.norm ?_
  intro nx1 G1 hnx1 hG1 hk1
  have hnx1 : nx1 = n0 + 19 := hnx1
  have hLed1 : BookAt G1 (n0 + 12) Bk.empty (fun m => n0 + 12 ≤ m ∧ m < n0 + 19) := by
    rw [hG1]
    exact book_new (k1 := n0 + 14) (k2 := n0 + 15) (k3 := n0 + 16) (k4 := n0 + 17) (k5 := n0 + 18) (by (simp (maxSteps := 2000000) (disch := omega) [go_sem, -List.map_map])) (by (simp (maxSteps := 2000000) (disch := omega) [go_sem, -List.map_map])) (by (simp (maxSteps := 2000000) (disch := omega) [go_sem, -List.map_map])) (by (simp (maxSteps := 2000000) (disch := omega) [go_sem, -List.map_map])) (by (simp (maxSteps := 2000000) (disch := omega) [go_sem, -List.map_map])) (by (simp (maxSteps := 2000000) (disch := omega) [go_sem, -List.map_map])) (by omega) (by omega)
  have hbx1 : G1 n0 = some (histB' h) := by rw [hG1]; (simp (maxSteps := 2000000) (disch := omega) [go_sem, -List.map_map, histB', strs])
  have hold1 : ∀ m k, H m = some k → G1 m = some k := fun m k hk => by
    have := hH _ _ hk
    rw [hG1]
    (simp (maxSteps := 2000000) (disch := omega) [go_sem, -List.map_map, hk])
  clear hG1 hk1
  subst hnx1
  obtain ⟨L, hL⟩ : ∃ L, L = n0 + 12 := ⟨_, rfl⟩
  rw [← hL] at hLed1 ⊢
  have hnL : n0 < L := by omega
  ((repeat refine WpM.seq ?_); have z_ex := True.intro; refine WpM.regPE [] [(1, _), (3, _), (4, _)] (by (refine s_o [] rfl rfl rfl z_su rfl q_move z_fp z_ss ?_; exact wpS_nil ⟨rfl, rfl⟩)) z_su ?_; clear z_ex)
  ((repeat refine WpM.seq ?_); refine WpM.block ?_)
  refine WpM.loop (fun (i : Nat) fr S => i ≤ h.txns.length ∧ ∃ nx G b O, S = ⟨nx, [], G⟩ ∧ checkSt h i = some b ∧ BookAt G L b O ∧ (∀ m, O m → n0 < m ∧ m < nx) ∧ n0 < nx ∧ G n0 = some (histB' h) ∧ (∀ m k, H m = some k → G m = some k) ∧ fr = frOf [(1, .ptr n0 0), (3, .ptr L 0), (4, .d (.int .i64 i))]) (fun i => h.txns.length - i) 0 (St.Le.refl _) (Sub.le z_su) ⟨by omega, _, G1, Bk.empty, _, rfl, rfl, hLed1, fun m hm => ⟨by omega, by omega⟩, by omega, hbx1, hold1, rfl⟩ ?_
  clear hLed1 hbx1 hold1 hL
  rintro i fr S' ⟨hi, nx2, G, b, O, rfl, hst, hLed, hO, hn2, hbx, hold, rfl⟩
  refine WpM.known fun hGk => ?_
  have hGk : ∀ m k, G m = some k → m < nx2 := hGk
  ((repeat refine WpM.seq ?_); have z_ex := (And.intro @hbx (And.intro @histB'.eq_1 True.intro)); refine WpM.regPE [] [(1, _), (3, _), (4, _), (26, _)] (by (refine s_o [(4, _)] rfl rfl rfl z_su rfl q_move z_fp z_ss ?_; refine s_o [(1, _)] rfl rfl rfl z_su rfl q_fieldAddr z_fp z_ss ?_; refine s_o [(23, _)] rfl rfl rfl z_su rfl q_load z_fp z_ss ?_; refine s_o [(24, _)] rfl rfl rfl z_su rfl q_full z_fp z_ss ?_; refine s_o [(22, _), (25, _)] rfl rfl rfl z_su rfl q_full z_fp z_ss ?_; exact wpS_nil ⟨rfl, rfl⟩)) z_su ?_; clear z_ex)
  by_cases hit : i < h.txns.length
  · ((repeat refine WpM.seq ?_); refine WpM.condT (by (simp (maxSteps := 2000000) (disch := omega) [go_sem, -List.map_map, hit])) ?_)
    refine WpM.skip ?_
    ((repeat refine WpM.seq ?_); refine WpM.block ?_)
    obtain ⟨t, ht⟩ : ∃ t, t = h.txns[i] := ⟨_, rfl⟩
    have hget : (h.txns.map encTxn)[i]? = some (encTxn t) := by simp [hit, ht]
    have htok := hh.2.2 t (ht ▸ List.getElem_mem _)
    have hstep := stepT_get (b := b) hit
    have hplaced := placed56 h.txns (by omega) i hit
    rw [← ht] at hstep hplaced
    obtain ⟨ev, hev⟩ : ∃ ev, ev = evOf h.keys t := ⟨_, rfl⟩
    obtain ⟨pl, hpl⟩ : ∃ pl, pl = placedB (h.txns.take i) t := ⟨_, rfl⟩
    rw [← hev] at hstep
    rw [← hpl] at hplaced hstep
    ((repeat refine WpM.seq ?_); have z_ex := (And.intro @hbx (And.intro @histB'.eq_1 (And.intro @hget (And.intro @hit (And.intro @encTxn.eq_1 True.intro))))); refine WpM.regPE [] [(1, _), (3, _), (4, _), (5, _)] (by (refine s_o [(1, _)] rfl rfl rfl z_su rfl q_fieldAddr z_fp z_ss ?_; refine s_o [(29, _)] rfl rfl rfl z_su rfl q_load z_fp z_ss ?_; refine s_o [(4, _)] rfl rfl rfl z_su rfl q_move z_fp z_ss ?_; refine s_o [(30, _), (31, _)] rfl rfl rfl z_su rfl q_full z_fp z_ss ?_; refine s_o [(32, _)] rfl rfl rfl z_su rfl q_load z_fp z_ss ?_; refine s_o [] rfl rfl rfl z_su rfl q_alloc z_fp z_ss ?_; refine s_o [(5, _), (33, _)] rfl rfl rfl z_su rfl q_store z_fp z_ss ?_; exact wpS_nil ⟨rfl, rfl⟩)) z_su ?_; clear z_ex)
    have badOk : evOkB h.keys t = false → checkB h = false := fun hb => checkB_bad hit hst (by rw [hstep, hb]; rfl)
    cases pl with
    | false =>
      rw [checkB_bad hit hst (by rw [hstep]; simp), errno_f']
      ((repeat refine WpM.seq ?_); have z_ex := (And.intro @hbx (And.intro @histB'.eq_1 True.intro)); refine WpM.regPE [] [(1, _), (3, _), (4, _), (5, _), (44, _)] (by (refine s_o [(1, _)] rfl rfl rfl z_su rfl q_fieldAddr z_fp z_ss ?_; refine s_o [(34, _)] rfl rfl rfl z_su rfl q_load z_fp z_ss ?_; refine s_o [(4, _)] rfl rfl rfl z_su rfl q_move z_fp z_ss ?_; refine s_pure (callOf_eq rfl rfl rfl (mlk_tmp z_lk (mlk_tmp z_lk mlk_nil))) (hplaced) rfl rfl z_ip z_fp ?_; refine s_o [(37, _)] rfl rfl rfl z_su rfl q_unOp z_fp z_ss ?_; refine s_o [(38, _)] rfl rfl rfl z_su rfl q_move z_fp z_ss ?_; refine s_wit ?_; intro z_g; (first | refine s_skip rfl z_g z_fp ?_ | (refine s_o [(5, _)] rfl z_g rfl z_su rfl q_fieldAddr z_fp z_ss ?_)); clear z_g; refine s_wit ?_; intro z_g; (first | refine s_skip rfl z_g z_fp ?_ | (refine s_o [(40, _)] rfl z_g rfl z_su rfl q_load z_fp z_ss ?_)); clear z_g; refine s_wit ?_; intro z_g; (first | refine s_skip rfl z_g z_fp ?_ | (refine s_o [(41, _)] rfl z_g rfl z_su rfl q_full z_fp z_ss ?_)); clear z_g; refine s_wit ?_; intro z_g; (first | refine s_skip rfl z_g z_fp ?_ | (refine s_o [(42, _)] rfl z_g rfl z_su rfl q_full z_fp z_ss ?_)); clear z_g; refine s_o [(39, _), (43, _)] rfl rfl rfl z_su rfl q_move z_fp z_ss ?_; exact wpS_nil ⟨rfl, rfl⟩)) z_su ?_; clear z_ex)
      ((repeat refine WpM.seq ?_); refine WpM.condT (by (simp (maxSteps := 2000000) (disch := omega) [go_sem, -List.map_map])) ?_)
      ((repeat refine WpM.seq ?_); have z_ex := True.intro; refine WpM.regPE [] [(2, _)] (by (refine s_o [] rfl rfl rfl z_su rfl q_move z_fp z_ss ?_; exact wpS_nil ⟨rfl, rfl⟩)) z_su ?_; clear z_ex)
      refine WpM.ret ?_
      exact ⟨.inr rfl, Upd.done ⟨_, (by (simp (maxSteps := 2000000) (disch := omega) [go_sem, -List.map_map, resV, resVs, resV1])), rfl, fun m k _ hk => by have h9 := hH _ _ hk; have h8 := hold m k hk; have h7 := hGk m k h8; (simp (maxSteps := 2000000) (disch := omega) [go_sem, -List.map_map, h8])⟩⟩
    | true =>
      by_cases h16 : 16 < t.ops.length
      · rw [badOk (evOkB_long h16), errno_f']
        have h16' : (16 : Int) < t.ops.length := by omega
        ((repeat refine WpM.seq ?_); have z_ex := (And.intro @hbx (And.intro @histB'.eq_1 (And.intro @h16' True.intro))); refine WpM.regPE [] [(1, _), (3, _), (4, _), (5, _), (44, _)] (by (refine s_o [(1, _)] rfl rfl rfl z_su rfl q_fieldAddr z_fp z_ss ?_; refine s_o [(34, _)] rfl rfl rfl z_su rfl q_load z_fp z_ss ?_; refine s_o [(4, _)] rfl rfl rfl z_su rfl q_move z_fp z_ss ?_; refine s_pure (callOf_eq rfl rfl rfl (mlk_tmp z_lk (mlk_tmp z_lk mlk_nil))) (hplaced) rfl rfl z_ip z_fp ?_; refine s_o [(37, _)] rfl rfl rfl z_su rfl q_unOp z_fp z_ss ?_; refine s_o [(38, _)] rfl rfl rfl z_su rfl q_move z_fp z_ss ?_; refine s_wit ?_; intro z_g; (first | refine s_skip rfl z_g z_fp ?_ | (refine s_o [(5, _)] rfl z_g rfl z_su rfl q_fieldAddr z_fp z_ss ?_)); clear z_g; refine s_wit ?_; intro z_g; (first | refine s_skip rfl z_g z_fp ?_ | (refine s_o [(40, _)] rfl z_g rfl z_su rfl q_load z_fp z_ss ?_)); clear z_g; refine s_wit ?_; intro z_g; (first | refine s_skip rfl z_g z_fp ?_ | (refine s_o [(41, _)] rfl z_g rfl z_su rfl q_full z_fp z_ss ?_)); clear z_g; refine s_wit ?_; intro z_g; (first | refine s_skip rfl z_g z_fp ?_ | (refine s_o [(42, _)] rfl z_g rfl z_su rfl q_full z_fp z_ss ?_)); clear z_g; refine s_o [(39, _), (43, _)] rfl rfl rfl z_su rfl q_move z_fp z_ss ?_; exact wpS_nil ⟨rfl, rfl⟩)) z_su ?_; clear z_ex)
        ((repeat refine WpM.seq ?_); refine WpM.condT (by (simp (maxSteps := 2000000) (disch := omega) [go_sem, -List.map_map, h16'])) ?_)
        ((repeat refine WpM.seq ?_); have z_ex := True.intro; refine WpM.regPE [] [(2, _)] (by (refine s_o [] rfl rfl rfl z_su rfl q_move z_fp z_ss ?_; exact wpS_nil ⟨rfl, rfl⟩)) z_su ?_; clear z_ex)
        refine WpM.ret ?_
        exact ⟨.inr rfl, Upd.done ⟨_, (by (simp (maxSteps := 2000000) (disch := omega) [go_sem, -List.map_map, resV, resVs, resV1])), rfl, fun m k _ hk => by have h9 := hH _ _ hk; have h8 := hold m k hk; have h7 := hGk m k h8; (simp (maxSteps := 2000000) (disch := omega) [go_sem, -List.map_map, h8])⟩⟩
      · have h16' : ¬ (16 : Int) < t.ops.length := by omega
        have h16'' : (t.ops.length : Int) ≤ 16 := by omega
        have h16n : t.ops.length ≤ 16 := by omega
        ((repeat refine WpM.seq ?_); have z_ex := (And.intro @hbx (And.intro @histB'.eq_1 (And.intro @h16' (And.intro @h16'' True.intro)))); refine WpM.regPE [] [(1, _), (3, _), (4, _), (5, _), (44, _)] (by (refine s_o [(1, _)] rfl rfl rfl z_su rfl q_fieldAddr z_fp z_ss ?_; refine s_o [(34, _)] rfl rfl rfl z_su rfl q_load z_fp z_ss ?_; refine s_o [(4, _)] rfl rfl rfl z_su rfl q_move z_fp z_ss ?_; refine s_pure (callOf_eq rfl rfl rfl (mlk_tmp z_lk (mlk_tmp z_lk mlk_nil))) (hplaced) rfl rfl z_ip z_fp ?_; refine s_o [(37, _)] rfl rfl rfl z_su rfl q_unOp z_fp z_ss ?_; refine s_o [(38, _)] rfl rfl rfl z_su rfl q_move z_fp z_ss ?_; refine s_wit ?_; intro z_g; (first | refine s_skip rfl z_g z_fp ?_ | (refine s_o [(5, _)] rfl z_g rfl z_su rfl q_fieldAddr z_fp z_ss ?_)); clear z_g; refine s_wit ?_; intro z_g; (first | refine s_skip rfl z_g z_fp ?_ | (refine s_o [(40, _)] rfl z_g rfl z_su rfl q_load z_fp z_ss ?_)); clear z_g; refine s_wit ?_; intro z_g; (first | refine s_skip rfl z_g z_fp ?_ | (refine s_o [(41, _)] rfl z_g rfl z_su rfl q_full z_fp z_ss ?_)); clear z_g; refine s_wit ?_; intro z_g; (first | refine s_skip rfl z_g z_fp ?_ | (refine s_o [(42, _)] rfl z_g rfl z_su rfl q_full z_fp z_ss ?_)); clear z_g; refine s_o [(39, _), (43, _)] rfl rfl rfl z_su rfl q_move z_fp z_ss ?_; exact wpS_nil ⟨rfl, rfl⟩)) z_su ?_; clear z_ex)
        ((repeat refine WpM.seq ?_); refine WpM.condF (by (simp (maxSteps := 2000000) (disch := omega) [go_sem, -List.map_map, h16', h16''])) ?_)
        refine WpM.skip ?_
        ((repeat refine WpM.seq ?_); have z_ex := True.intro; refine WpM.regPE [] [(1, _), (3, _), (4, _), (5, _), (6, _)] (by (refine s_o [(5, _)] rfl rfl rfl z_su rfl q_fieldAddr z_fp z_ss ?_; refine s_o [(45, _)] rfl rfl rfl z_su rfl q_load z_fp z_ss ?_; refine s_o [(46, _)] rfl rfl rfl z_su rfl q_build z_fp z_ss ?_; refine s_o [] rfl rfl rfl z_su rfl q_alloc z_fp z_ss ?_; refine s_o [(6, _), (47, _)] rfl rfl rfl z_su rfl q_store z_fp z_ss ?_; exact wpS_nil ⟨rfl, rfl⟩)) z_su ?_; clear z_ex)
        refine Upd.wp (Upd.ghostIn (nx2 + 25) 2 5 (cs := [.d (.int .i64 0), .d (.int .i64 t.status), .nil]) (by (simp (maxSteps := 2000000) (disch := omega) [go_sem, -List.map_map])) (.inl (by rfl)) (Upd.done ?_))
        refine WpM.less (St.Le.refl _) (frLe_frOf (l := [(1, .ptr n0 0), (3, .ptr L 0), (4, .d (.int .i64 i)), (5, .ptr (nx2 + 10) 0), (6, .ptr (nx2 + 25) 0)]) (by (simp (maxSteps := 2000000) (disch := omega) [go_sem, -List.map_map]))) ?_
        ((repeat refine WpM.seq ?_); have z_ex := True.intro; refine WpM.regPE [] [(1, _), (3, _), (4, _), (5, _), (6, _), (7, _)] (by (refine s_o [] rfl rfl rfl z_su rfl q_move z_fp z_ss ?_; exact wpS_nil ⟨rfl, rfl⟩)) z_su ?_; clear z_ex)
        ((repeat refine WpM.seq ?_); refine WpM.block ?_)
        refine WpM.loop (fun (j : Nat) fr S => j ≤ t.ops.length ∧ (∀ i (h' : i < t.ops.length), i < j → okKey h.keys.length t.ops[i] = true) ∧ ∃ nx nr ys, nx2 + 26 ≤ nr ∧ nr < nx ∧ ys = ((t.ops.take j).map fun o => V.d (encCall (callOf' h.keys o))) ∧ fr = frOf [(1, .ptr n0 0), (3, .ptr L 0), (4, .d (.int .i64 i)), (5, .ptr (nx2 + 10) 0), (6, .ptr (nx2 + 25) 0), (7, .d (.int .i64 j))] ∧ S = ⟨nx, [(nx2 + 10, some (.box [.d (.int .i64 t.proc), .d (.int .i64 t.status), .d (.int .i64 t.frm), .d (.int .i64 t.to), .d (.sl (t.ops.map encOp))])), (nx2 + 25, some (.box [.d (.int .i64 0), .d (.int .i64 t.status), .ms nr 5 0 ys.length])), (nr, some (.row 5 ys))], G⟩) (fun j => t.ops.length - j) 0 (St.Le.refl _) (Sub.le z_su) ⟨by omega, by simp, nx2 + 29, nx2 + 27, [], by omega, by omega, by simp, rfl, by (simp (maxSteps := 2000000) (disch := omega) [go_sem, -List.map_map])⟩ ?_
        rintro j fr S' ⟨hj, hall, nx, nr, ys, hnr, hnx, hys, rfl, rfl⟩
        have hyl : ys.length = j := by rw [hys]; simp; omega
        ((repeat refine WpM.seq ?_); have z_ex := True.intro; refine WpM.regPE [] [(1, _), (3, _), (4, _), (5, _), (6, _), (7, _), (52, _)] (by (refine s_o [(7, _)] rfl rfl rfl z_su rfl q_move z_fp z_ss ?_; refine s_o [(5, _)] rfl rfl rfl z_su rfl q_fieldAddr z_fp z_ss ?_; refine s_o [(49, _)] rfl rfl rfl z_su rfl q_load z_fp z_ss ?_; refine s_o [(50, _)] rfl rfl rfl z_su rfl q_full z_fp z_ss ?_; refine s_o [(48, _), (51, _)] rfl rfl rfl z_su rfl q_full z_fp z_ss ?_; exact wpS_nil ⟨rfl, rfl⟩)) z_su ?_; clear z_ex)
        by_cases hlt : j < t.ops.length
        · ((repeat refine WpM.seq ?_); refine WpM.condT (by (simp (maxSteps := 2000000) (disch := omega) [go_sem, -List.map_map, hlt])) ?_)
          refine WpM.skip ?_
          ((repeat refine WpM.seq ?_); refine WpM.block ?_)
          obtain ⟨o, ho⟩ : ∃ o, o = t.ops[j] := ⟨_, rfl⟩
          have hgeto : (t.ops.map encOp)[j]? = some (encOp o) := by simp [hlt, ho]
          obtain ⟨ok1, ok2, ok3, ok4⟩ := htok.2.2.2.2.2 o (ho ▸ List.getElem_mem _)
          ((repeat refine WpM.seq ?_); have z_ex := (And.intro @hgeto (And.intro @encOp.eq_1 True.intro)); refine WpM.regPE [] [(1, _), (3, _), (4, _), (5, _), (6, _), (7, _), (8, _)] (by (refine s_o [(5, _)] rfl rfl rfl z_su rfl q_fieldAddr z_fp z_ss ?_; refine s_o [(55, _)] rfl rfl rfl z_su rfl q_load z_fp z_ss ?_; refine s_o [(7, _)] rfl rfl rfl z_su rfl q_move z_fp z_ss ?_; refine s_o [(56, _), (57, _)] rfl rfl rfl z_su rfl q_full z_fp z_ss ?_; refine s_o [(58, _)] rfl rfl rfl z_su rfl q_load z_fp z_ss ?_; refine s_o [] rfl rfl rfl z_su rfl q_alloc z_fp z_ss ?_; refine s_o [(8, _), (59, _)] rfl rfl rfl z_su rfl q_store z_fp z_ss ?_; exact wpS_nil ⟨rfl, rfl⟩)) z_su ?_; clear z_ex)
          by_cases hk : okKey h.keys.length o = true
          · obtain ⟨hk1, hk2⟩ : 0 ≤ o.key ∧ o.key < h.keys.length := by simpa [okKey] using hk
            obtain ⟨kn, hkn⟩ : ∃ kn : Nat, o.key = kn := ⟨o.key.toNat, by omega⟩
            have hkl : kn < h.keys.length := by omega
            have hkx : h.keys[kn]? = some (h.keys.getD kn ByteArray.empty) := by simp [hkl]
            have hcall : callOf' h.keys o = ⟨o.kind, h.keys.getD kn ByteArray.empty, o.arg, o.got, o.vals⟩ := by simp [callOf', hkn]
            obtain ⟨key, hkey⟩ : ∃ key, key = h.keys.getD kn ByteArray.empty := ⟨_, rfl⟩
            have hkg : (h.keys.map D.str)[kn]? = some (.str key) := by rw [List.getElem?_map, hkx, hkey]; rfl
            rw [← hkey] at hcall
            have hn1 : ¬ ((kn : Int) < 0) := by omega
            have hn2 : ¬ ((h.keys.length : Int) ≤ kn) := by omega
            ((repeat refine WpM.seq ?_); have z_ex := (And.intro @hbx (And.intro @histB'.eq_1 (And.intro @hkn (And.intro @hn1 (And.intro @hn2 (And.intro @strs.eq_1 (And.intro @hkl True.intro))))))); refine WpM.regPE [] [(1, _), (3, _), (4, _), (5, _), (6, _), (7, _), (8, _), (70, _)] (by (refine s_o [(8, _)] rfl rfl rfl z_su rfl q_fieldAddr z_fp z_ss ?_; refine s_o [(60, _)] rfl rfl rfl z_su rfl q_load z_fp z_ss ?_; refine s_o [(61, _)] rfl rfl rfl z_su rfl q_full z_fp z_ss ?_; refine s_o [(62, _)] rfl rfl rfl z_su rfl q_move z_fp z_ss ?_; refine s_wit ?_; intro z_g; (first | refine s_skip rfl z_g z_fp ?_ | (refine s_o [(8, _)] rfl z_g rfl z_su rfl q_fieldAddr z_fp z_ss ?_)); clear z_g; refine s_wit ?_; intro z_g; (first | refine s_skip rfl z_g z_fp ?_ | (refine s_o [(64, _)] rfl z_g rfl z_su rfl q_load z_fp z_ss ?_)); clear z_g; refine s_wit ?_; intro z_g; (first | refine s_skip rfl z_g z_fp ?_ | (refine s_o [(1, _)] rfl z_g rfl z_su rfl q_fieldAddr z_fp z_ss ?_)); clear z_g; refine s_wit ?_; intro z_g; (first | refine s_skip rfl z_g z_fp ?_ | (refine s_o [(66, _)] rfl z_g rfl z_su rfl q_load z_fp z_ss ?_)); clear z_g; refine s_wit ?_; intro z_g; (first | refine s_skip rfl z_g z_fp ?_ | (refine s_o [(67, _)] rfl z_g rfl z_su rfl q_full z_fp z_ss ?_)); clear z_g; refine s_wit ?_; intro z_g; (first | refine s_skip rfl z_g z_fp ?_ | (refine s_o [(65, _), (68, _)] rfl z_g rfl z_su rfl q_full z_fp z_ss ?_)); clear z_g; refine s_o [(63, _), (69, _)] rfl rfl rfl z_su rfl q_move z_fp z_ss ?_; exact wpS_nil ⟨rfl, rfl⟩)) z_su ?_; clear z_ex)
            ((repeat refine WpM.seq ?_); refine WpM.condF (by (simp (maxSteps := 2000000) (disch := omega) [go_sem, -List.map_map, hn1, hn2])) ?_)
            refine WpM.skip ?_
            have hys' : ys ++ [V.d (encCall (callOf' h.keys o))] = (t.ops.take (j + 1)).map (fun o => V.d (encCall (callOf' h.keys o))) := by rw [hys, List.take_succ_eq_append_getElem hlt, ← ho]; simp
            rw [hcall] at hys'
            have hall' : ∀ i (h' : i < t.ops.length), i < j + 1 → okKey h.keys.length t.ops[i] = true := fun i h' hi => by
              rcases Nat.lt_or_ge i j with h2 | h2
              · exact hall i h' h2
              · obtain rfl : i = j := by omega
                rw [← ho]; exact hk
            ((repeat refine WpM.seq ?_); have z_ex := (And.intro @hbx (And.intro @histB'.eq_1 (And.intro @hkn (And.intro @hn1 (And.intro @hn2 (And.intro @strs.eq_1 (And.intro @hkl (And.intro @hkg True.intro)))))))); refine WpM.drwPE [] [(1, _), (3, _), (4, _), (5, _), (6, _), (7, _)] mixed (by kernel_rfl) (by kernel_rfl) [(1, 17)] (by kernel_rfl) (by (refine d_o [(6, _)] rfl rfl rfl z_su rfl q_fieldAddr z_fp z_ss rfl ?_; refine d_o [(71, _)] rfl rfl rfl z_su rfl q_load z_fp z_ss rfl ?_; refine d_o [(8, _)] rfl rfl rfl z_su rfl q_fieldAddr z_fp z_ss rfl ?_; refine d_o [(73, _)] rfl rfl rfl z_su rfl q_load z_fp z_ss rfl ?_; refine d_o [(1, _)] rfl rfl rfl z_su rfl q_fieldAddr z_fp z_ss rfl ?_; refine d_o [(75, _)] rfl rfl rfl z_su rfl q_load z_fp z_ss rfl ?_; refine d_o [(8, _)] rfl rfl rfl z_su rfl q_fieldAddr z_fp z_ss rfl ?_; refine d_o [(77, _)] rfl rfl rfl z_su rfl q_load z_fp z_ss rfl ?_; refine d_o [(76, _), (78, _)] rfl rfl rfl z_su rfl q_full z_fp z_ss rfl ?_; refine d_o [(79, _)] rfl rfl rfl z_su rfl q_load z_fp z_ss rfl ?_; refine d_o [(8, _)] rfl rfl rfl z_su rfl q_fieldAddr z_fp z_ss rfl ?_; refine d_o [(81, _)] rfl rfl rfl z_su rfl q_load z_fp z_ss rfl ?_; refine d_o [(8, _)] rfl rfl rfl z_su rfl q_fieldAddr z_fp z_ss rfl ?_; refine d_o [(83, _)] rfl rfl rfl z_su rfl q_load z_fp z_ss rfl ?_; refine d_o [(8, _)] rfl rfl rfl z_su rfl q_fieldAddr z_fp z_ss rfl ?_; refine d_o [(85, _)] rfl rfl rfl z_su rfl q_load z_fp z_ss rfl ?_; refine d_o [(74, _), (80, _), (82, _), (84, _), (86, _)] rfl rfl rfl z_su rfl q_build z_fp z_ss rfl ?_; refine d_o [(87, _)] rfl rfl rfl z_su rfl q_full z_fp z_ss rfl ?_; refine d_o [(72, _), (88, _)] rfl rfl rfl z_su rfl q_full z_fp z_ss rfl ?_; refine d_o [(6, _)] rfl rfl rfl z_su rfl q_fieldAddr z_fp z_ss rfl ?_; refine d_o [(89, _), (90, _)] rfl rfl rfl z_su rfl q_store z_fp z_ss rfl ?_; exact d_end z_mt z_sn)) z_su ?_; clear z_ex)
            ((repeat refine WpM.seq ?_); have z_ex := (And.intro @wrap_id True.intro); refine WpM.regPE [] [(1, _), (3, _), (4, _), (5, _), (6, _), (7, _)] (by (refine s_o [(7, _)] rfl rfl rfl z_su rfl q_move z_fp z_ss ?_; refine s_o [(53, _)] rfl rfl rfl z_su rfl q_full z_fp z_ss ?_; refine s_o [(54, _)] rfl rfl rfl z_su rfl q_move z_fp z_ss ?_; exact wpS_nil ⟨rfl, rfl⟩)) z_su ?_; clear z_ex)
            exact round_end (x' := j + 1) (le_cut (n0 := nx2) (l' := [(nx2 + 10, some (.box [.d (.int .i64 t.proc), .d (.int .i64 t.status), .d (.int .i64 t.frm), .d (.int .i64 t.to), .d (.sl (t.ops.map encOp))])), (nx2 + 25, some (.box [.d (.int .i64 0), .d (.int .i64 t.status), .ms (nx + 41) 5 0 (ys.length + 1)])), (nx + 41, some (.row 5 (ys ++ [V.d (encCall ⟨o.kind, key, o.arg, o.got, o.vals⟩)])))]) hGk (by (simp (maxSteps := 2000000) (disch := omega) [go_sem, -List.map_map]); omega) (Nat.le_refl _) (by (simp (maxSteps := 2000000) (disch := omega) [go_sem, -List.map_map, encCall]))) (Sub.le z_su) ⟨by omega, hall', nx + 47, nx + 41, _, by omega, by omega, hys', rfl, by (simp (maxSteps := 2000000) (disch := omega) [go_sem, -List.map_map])⟩ (by omega)
          · have hk' : okKey h.keys.length o = false := by simpa using hk
            rw [badOk (evOkB_key hlt (ho ▸ hk')), errno_f']
            have hcase : o.key < 0 ∨ ¬ o.key < 0 ∧ (h.keys.length : Int) ≤ o.key := by
              have : ¬ (0 ≤ o.key ∧ o.key < h.keys.length) := by simpa [okKey] using hk'
              omega
            rcases hcase with hc | ⟨hc1, hc2⟩
            · ((repeat refine WpM.seq ?_); have z_ex := (And.intro @hc True.intro); refine WpM.regPE [] [(1, _), (3, _), (4, _), (5, _), (6, _), (7, _), (8, _), (70, _)] (by (refine s_o [(8, _)] rfl rfl rfl z_su rfl q_fieldAddr z_fp z_ss ?_; refine s_o [(60, _)] rfl rfl rfl z_su rfl q_load z_fp z_ss ?_; refine s_o [(61, _)] rfl rfl rfl z_su rfl q_full z_fp z_ss ?_; refine s_o [(62, _)] rfl rfl rfl z_su rfl q_move z_fp z_ss ?_; refine s_wit ?_; intro z_g; (first | refine s_skip rfl z_g z_fp ?_ | (refine s_o [(8, _)] rfl z_g rfl z_su rfl q_fieldAddr z_fp z_ss ?_)); clear z_g; refine s_wit ?_; intro z_g; (first | refine s_skip rfl z_g z_fp ?_ | (refine s_o [(64, _)] rfl z_g rfl z_su rfl q_load z_fp z_ss ?_)); clear z_g; refine s_wit ?_; intro z_g; (first | refine s_skip rfl z_g z_fp ?_ | (refine s_o [(1, _)] rfl z_g rfl z_su rfl q_fieldAddr z_fp z_ss ?_)); clear z_g; refine s_wit ?_; intro z_g; (first | refine s_skip rfl z_g z_fp ?_ | (refine s_o [(66, _)] rfl z_g rfl z_su rfl q_load z_fp z_ss ?_)); clear z_g; refine s_wit ?_; intro z_g; (first | refine s_skip rfl z_g z_fp ?_ | (refine s_o [(67, _)] rfl z_g rfl z_su rfl q_full z_fp z_ss ?_)); clear z_g; refine s_wit ?_; intro z_g; (first | refine s_skip rfl z_g z_fp ?_ | (refine s_o [(65, _), (68, _)] rfl z_g rfl z_su rfl q_full z_fp z_ss ?_)); clear z_g; refine s_o [(63, _), (69, _)] rfl rfl rfl z_su rfl q_move z_fp z_ss ?_; exact wpS_nil ⟨rfl, rfl⟩)) z_su ?_; clear z_ex)
              ((repeat refine WpM.seq ?_); refine WpM.condT (by (simp (maxSteps := 2000000) (disch := omega) [go_sem, -List.map_map, hc])) ?_)
              ((repeat refine WpM.seq ?_); have z_ex := True.intro; refine WpM.regPE [] [(2, _)] (by (refine s_o [] rfl rfl rfl z_su rfl q_move z_fp z_ss ?_; exact wpS_nil ⟨rfl, rfl⟩)) z_su ?_; clear z_ex)
              refine WpM.ret ?_
              exact ⟨.inr rfl, Upd.done ⟨_, (by (simp (maxSteps := 2000000) (disch := omega) [go_sem, -List.map_map, resV, resVs, resV1])), rfl, fun m k _ hk => by have h9 := hH _ _ hk; have h8 := hold m k hk; have h7 := hGk m k h8; (simp (maxSteps := 2000000) (disch := omega) [go_sem, -List.map_map, h8])⟩⟩
            · ((repeat refine WpM.seq ?_); have z_ex := (And.intro @hbx (And.intro @histB'.eq_1 (And.intro @hc1 (And.intro @hc2 (And.intro @strs.eq_1 True.intro))))); refine WpM.regPE [] [(1, _), (3, _), (4, _), (5, _), (6, _), (7, _), (8, _), (70, _)] (by (refine s_o [(8, _)] rfl rfl rfl z_su rfl q_fieldAddr z_fp z_ss ?_; refine s_o [(60, _)] rfl rfl rfl z_su rfl q_load z_fp z_ss ?_; refine s_o [(61, _)] rfl rfl rfl z_su rfl q_full z_fp z_ss ?_; refine s_o [(62, _)] rfl rfl rfl z_su rfl q_move z_fp z_ss ?_; refine s_wit ?_; intro z_g; (first | refine s_skip rfl z_g z_fp ?_ | (refine s_o [(8, _)] rfl z_g rfl z_su rfl q_fieldAddr z_fp z_ss ?_)); clear z_g; refine s_wit ?_; intro z_g; (first | refine s_skip rfl z_g z_fp ?_ | (refine s_o [(64, _)] rfl z_g rfl z_su rfl q_load z_fp z_ss ?_)); clear z_g; refine s_wit ?_; intro z_g; (first | refine s_skip rfl z_g z_fp ?_ | (refine s_o [(1, _)] rfl z_g rfl z_su rfl q_fieldAddr z_fp z_ss ?_)); clear z_g; refine s_wit ?_; intro z_g; (first | refine s_skip rfl z_g z_fp ?_ | (refine s_o [(66, _)] rfl z_g rfl z_su rfl q_load z_fp z_ss ?_)); clear z_g; refine s_wit ?_; intro z_g; (first | refine s_skip rfl z_g z_fp ?_ | (refine s_o [(67, _)] rfl z_g rfl z_su rfl q_full z_fp z_ss ?_)); clear z_g; refine s_wit ?_; intro z_g; (first | refine s_skip rfl z_g z_fp ?_ | (refine s_o [(65, _), (68, _)] rfl z_g rfl z_su rfl q_full z_fp z_ss ?_)); clear z_g; refine s_o [(63, _), (69, _)] rfl rfl rfl z_su rfl q_move z_fp z_ss ?_; exact wpS_nil ⟨rfl, rfl⟩)) z_su ?_; clear z_ex)
              ((repeat refine WpM.seq ?_); refine WpM.condT (by (simp (maxSteps := 2000000) (disch := omega) [go_sem, -List.map_map, hc1, hc2])) ?_)
              ((repeat refine WpM.seq ?_); have z_ex := True.intro; refine WpM.regPE [] [(2, _)] (by (refine s_o [] rfl rfl rfl z_su rfl q_move z_fp z_ss ?_; exact wpS_nil ⟨rfl, rfl⟩)) z_su ?_; clear z_ex)
              refine WpM.ret ?_
              exact ⟨.inr rfl, Upd.done ⟨_, (by (simp (maxSteps := 2000000) (disch := omega) [go_sem, -List.map_map, resV, resVs, resV1])), rfl, fun m k _ hk => by have h9 := hH _ _ hk; have h8 := hold m k hk; have h7 := hGk m k h8; (simp (maxSteps := 2000000) (disch := omega) [go_sem, -List.map_map, h8])⟩⟩
        · ((repeat refine WpM.seq ?_); refine WpM.condF (by (simp (maxSteps := 2000000) (disch := omega) [go_sem, -List.map_map, hlt])) ?_)
          (refine WpM.exit ?_; (repeat (with_reducible (first | refine thenM_exit ?_ | refine blockM_eq ?_ | refine blockM_ne (by decide) ?_))))
          obtain rfl : j = t.ops.length := by omega
          rw [List.take_length] at hys
          obtain ⟨g1, g2⟩ := takeWhile_good (okKey h.keys.length) t.ops (fun i hi => hall i hi hi)
          have hev2 : ev.calls.map encCall = t.ops.map fun o => encCall (callOf' h.keys o) := by simp [hev, evOf, g1, List.map_map, Function.comp_def]
          have hevok : evOkB h.keys t = eventOk ev := by simp [evOkB, g2, hev]
          have hck := check45_one hh.1 htok h16n
          rw [← hev] at hck
          rw [show evs [ev] = .sl [.agg [.int .i64 0, .int .i64 t.status, .sl (ev.calls.map encCall)]] by rw [hev]; rfl] at hck
          refine Upd.wp (Upd.freezeIn (nx2 + 25) 2 (cs := [.d (.int .i64 0), .d (.int .i64 t.status), .ms nr 5 0 ys.length]) (xs := ys) (ev.calls.map encCall) (by (simp (maxSteps := 2000000) (disch := omega) [go_sem, -List.map_map])) (by rfl) (by (simp (maxSteps := 2000000) (disch := omega) [go_sem, -List.map_map])) (by rw [List.drop_zero, List.take_length, hys, hev2, List.map_map]; rfl) (by simp [hev2, hys]) (Upd.done ?_))
          refine WpM.less (le_cut (n0 := nx2) (n' := nx + 8) (l' := [(nx2 + 25, some (.box [.d (.int .i64 0), .d (.int .i64 t.status), .d (.sl (ev.calls.map encCall))]))]) hGk (by (simp (maxSteps := 2000000) (disch := omega) [go_sem, -List.map_map]); omega) (by (simp (maxSteps := 2000000) (disch := omega) [go_sem, -List.map_map])) (by (simp (maxSteps := 2000000) (disch := omega) [go_sem, -List.map_map]))) (frLe_frOf (l := [(1, .ptr n0 0), (3, .ptr L 0), (4, .d (.int .i64 i)), (6, .ptr (nx2 + 25) 0)]) (by (simp (maxSteps := 2000000) (disch := omega) [go_sem, -List.map_map]))) ?_
          rw [hevok] at hstep badOk
          cases hb : eventOk ev with
          | false =>
            rw [hb] at hck
            rw [badOk hb, errno_f']
            ((repeat refine WpM.seq ?_); have z_ex := True.intro; refine WpM.regPE [] [(1, _), (3, _), (4, _), (6, _), (94, _)] (by (refine s_o [(6, _)] rfl rfl rfl z_su rfl q_load z_fp z_ss ?_; refine s_o [(91, _)] rfl rfl rfl z_su rfl q_full z_fp z_ss ?_; refine s_pure (callOf_eq rfl rfl rfl (mlk_tmp z_lk mlk_nil)) (hck) rfl rfl z_ip z_fp ?_; refine s_o [(93, _)] rfl rfl rfl z_su rfl q_full z_fp z_ss ?_; exact wpS_nil ⟨rfl, rfl⟩)) z_su ?_; clear z_ex)
            ((repeat refine WpM.seq ?_); refine WpM.condT (by (simp (maxSteps := 2000000) (disch := omega) [go_sem, -List.map_map])) ?_)
            ((repeat refine WpM.seq ?_); have z_ex := True.intro; refine WpM.regPE [] [(2, _)] (by (refine s_o [] rfl rfl rfl z_su rfl q_move z_fp z_ss ?_; exact wpS_nil ⟨rfl, rfl⟩)) z_su ?_; clear z_ex)
            refine WpM.ret ?_
            exact ⟨.inr rfl, Upd.done ⟨_, (by (simp (maxSteps := 2000000) (disch := omega) [go_sem, -List.map_map, resV, resVs, resV1])), rfl, fun m k _ hk => by have h9 := hH _ _ hk; have h8 := hold m k hk; have h7 := hGk m k h8; (simp (maxSteps := 2000000) (disch := omega) [go_sem, -List.map_map, h8])⟩⟩
          | true =>
            rw [hb] at hck hstep
            ((repeat refine WpM.seq ?_); have z_ex := True.intro; refine WpM.regPE [] [(1, _), (3, _), (4, _), (6, _), (94, _)] (by (refine s_o [(6, _)] rfl rfl rfl z_su rfl q_load z_fp z_ss ?_; refine s_o [(91, _)] rfl rfl rfl z_su rfl q_full z_fp z_ss ?_; refine s_pure (callOf_eq rfl rfl rfl (mlk_tmp z_lk mlk_nil)) (hck) rfl rfl z_ip z_fp ?_; refine s_o [(93, _)] rfl rfl rfl z_su rfl q_full z_fp z_ss ?_; exact wpS_nil ⟨rfl, rfl⟩)) z_su ?_; clear z_ex)
            ((repeat refine WpM.seq ?_); refine WpM.condF (by (simp (maxSteps := 2000000) (disch := omega) [go_sem, -List.map_map])) ?_)
            refine WpM.skip ?_
            obtain ⟨_, _, hl16, hcok⟩ := eventOk_spec hb
            have hwf0 := checkSt_wf hst
            refine WpM.norm ?_
            intro nx5 G5 hnx5 hG5 hk5
            have hbE : G5 (nx2 + 25) = some (.box [.d (.int .i64 0), .d (.int .i64 t.status), .d (.sl (ev.calls.map encCall))]) := by rw [hG5]; (simp (maxSteps := 2000000) (disch := omega) [go_sem, -List.map_map])
            have hbx5 : G5 n0 = some (histB' h) := by rw [hG5]; (simp (maxSteps := 2000000) (disch := omega) [go_sem, -List.map_map, hbx])
            have hold5 : ∀ m k, H m = some k → G5 m = some k := fun m k hk => by
              have h8 := hold m k hk
              have h7 := hGk m k h8
              rw [hG5]
              (simp (maxSteps := 2000000) (disch := omega) [go_sem, -List.map_map, h8])
            have hLed5 : BookAt G5 L b O := hLed.same fun m k ho hk => by
              have := (hO m ho).2
              rw [hG5]
              (simp (maxSteps := 2000000) (disch := omega) [go_sem, -List.map_map, hk])
            have hnx5' : nx2 + 25 < nx5 := by have h3 : nx5 = nx + 11 := hnx5; omega
            have hOE : ¬ O (nx2 + 25) := fun h => by have := (hO _ h).2; omega
            have hO5 : ∀ m, O m → n0 < m ∧ m < nx5 := fun m hm => ⟨(hO m hm).1, by have := (hO m hm).2; omega⟩
            have hn5 : n0 < nx2 + 25 := by omega
            obtain ⟨ne, hne⟩ : ∃ ne, ne = nx2 + 25 := ⟨_, rfl⟩
            rw [← hne] at hbE hnx5' hOE hn5 ⊢
            have hst' : checkSt h (i + 1) = enters b ev.calls i := by rw [checkSt, hst]; exact hstep
            clear hG5 hk5 hnx5 hbx hold hLed hO hGk hck badOk hys hyl hall hev2 g1 g2 hne
            ((repeat refine WpM.seq ?_); have z_ex := True.intro; refine WpM.regPE [] [(1, _), (3, _), (4, _), (6, _), (9, _)] (by (refine s_o [] rfl rfl rfl z_su rfl q_move z_fp z_ss ?_; exact wpS_nil ⟨rfl, rfl⟩)) z_su ?_; clear z_ex)
            ((repeat refine WpM.seq ?_); refine WpM.block ?_)
            refine WpM.loop (fun (k : Nat) fr S => k ≤ ev.calls.length ∧ ∃ nx G b3 O, S = ⟨nx, [], G⟩ ∧ enters b (ev.calls.take k) i = some b3 ∧ BookAt G L b3 O ∧ (∀ m, O m → n0 < m ∧ m < nx) ∧ n0 < nx ∧ ne < nx ∧ ¬ O ne ∧ G ne = some (.box [.d (.int .i64 0), .d (.int .i64 t.status), .d (.sl (ev.calls.map encCall))]) ∧ G n0 = some (histB' h) ∧ (∀ m k, H m = some k → G m = some k) ∧ fr = frOf [(1, .ptr n0 0), (3, .ptr L 0), (4, .d (.int .i64 i)), (6, .ptr ne 0), (9, .d (.int .i64 k))]) (fun k => ev.calls.length - k) 0 (St.Le.refl _) (Sub.le z_su) ⟨by omega, _, G5, b, O, rfl, rfl, hLed5, fun m hm => ⟨(hO5 m hm).1, by have := (hO5 m hm).2; omega⟩, by omega, by omega, hOE, hbE, hbx5, hold5, rfl⟩ ?_
            clear hbE hbx5 hold5 hLed5 hnx5' hOE hO5
            rintro k fr S' ⟨hk, nx3, G, b3, O, rfl, hent, hLed, hO, hn3, hn3', hOE, hbE, hbx, hold, rfl⟩
            refine WpM.known fun hGk => ?_
            have hGk : ∀ m k, G m = some k → m < nx3 := hGk
            ((repeat refine WpM.seq ?_); have z_ex := (And.intro @hbE True.intro); refine WpM.regPE [] [(1, _), (3, _), (4, _), (6, _), (9, _), (99, _)] (by (refine s_o [(9, _)] rfl rfl rfl z_su rfl q_move z_fp z_ss ?_; refine s_o [(6, _)] rfl rfl rfl z_su rfl q_fieldAddr z_fp z_ss ?_; refine s_o [(96, _)] rfl rfl rfl z_su rfl q_load z_fp z_ss ?_; refine s_o [(97, _)] rfl rfl rfl z_su rfl q_full z_fp z_ss ?_; refine s_o [(95, _), (98, _)] rfl rfl rfl z_su rfl q_full z_fp z_ss ?_; exact wpS_nil ⟨rfl, rfl⟩)) z_su ?_; clear z_ex)
            by_cases hkt : k < ev.calls.length
            · ((repeat refine WpM.seq ?_); refine WpM.condT (by (simp (maxSteps := 2000000) (disch := omega) [go_sem, -List.map_map, hkt])) ?_)
              refine WpM.skip ?_
              ((repeat refine WpM.seq ?_); refine WpM.block ?_)
              obtain ⟨c, hc⟩ : ∃ c, c = ev.calls[k] := ⟨_, rfl⟩
              have hgetc : (ev.calls.map encCall)[k]? = some (encCall c) := by simp [hkt, hc]
              obtain ⟨hk1, hk8⟩ := callOk_kind (hcok c (hc ▸ List.getElem_mem _))
              have hnext := enters_take ev.calls b i k hkt b3 hent
              rw [← hc] at hnext
              have hwf3 := enters_wf _ hwf0 hent
              have hwn : 16 * i + (ev.calls.take k).length ≤ 1000000 := by simp; omega
              have hE := fun S h1 h2 => enter50 b3 _ hwn hwf3 c hk1 hk8 i (by omega) L O S h1 h2
              cases he : enterB b3 c i with
              | error e =>
                rw [he] at hE hnext
                have hcb : checkB h = false := checkB_bad hit hst (by rw [hstep]; exact enters_stop ev.calls b i (k + 1) hnext)
                rw [hcb, errno_f']
                clear hnext hent hwf3 hwf0
                ((repeat refine WpM.seq ?_); have z_ex := (And.intro @hbE (And.intro @hgetc (And.intro @hkt (And.intro @encCall.eq_1 True.intro)))); refine WpM.regP [] ?_; intro K hK; refine s_o [(3, _)] rfl rfl rfl z_su rfl q_move z_fp z_ss ?_; refine s_o [(6, _)] rfl rfl rfl z_su rfl q_fieldAddr z_fp z_ss ?_; refine s_o [(103, _)] rfl rfl rfl z_su rfl q_load z_fp z_ss ?_; refine s_o [(9, _)] rfl rfl rfl z_su rfl q_move z_fp z_ss ?_; refine s_o [(104, _), (105, _)] rfl rfl rfl z_su rfl q_full z_fp z_ss ?_; refine s_o [(106, _)] rfl rfl rfl z_su rfl q_load z_fp z_ss ?_; refine s_o [(4, _)] rfl rfl rfl z_su rfl q_move z_fp z_ss ?_; refine s_call (callOf_eq rfl rfl rfl (mlk_tmp z_lk (mlk_tmp z_lk (mlk_tmp z_lk mlk_nil)))) (hE _ hLed (fun m hm => by have := (hO m hm).2; show m < nx3 + _; omega)) rfl rfl z_ip ?_; rintro _ z_S ⟨hnx, old, rfl, hne2⟩; refine s_put z_fp ?_; refine s_o [(109, _)] rfl rfl rfl z_su rfl q_full z_fp z_ss ?_; refine s_endE [(1, _), (3, _), (4, _), (6, _), (9, _), (110, _)] hK z_su ?_; clear hK K; clear z_ex)
                ((repeat refine WpM.seq ?_); refine WpM.condT (by (simp (maxSteps := 2000000) (disch := omega) [go_sem, -List.map_map, hne2])) ?_)
                ((repeat refine WpM.seq ?_); have z_ex := True.intro; refine WpM.regPE [] [(2, _)] (by (refine s_o [] rfl rfl rfl z_su rfl q_move z_fp z_ss ?_; exact wpS_nil ⟨rfl, rfl⟩)) z_su ?_; clear z_ex)
                refine WpM.ret ?_
                exact ⟨.inr rfl, Upd.done ⟨_, (by (simp (maxSteps := 2000000) (disch := omega) [go_sem, -List.map_map, resV, resVs, resV1])), rfl, fun m k _ hk => old m k (fun h => by have := (hO m h).1; have h9 := hH m k hk; omega) (hold m k hk)⟩⟩
              | ok b4 =>
                rw [he] at hE hnext
                ((repeat refine WpM.seq ?_); have z_ex := (And.intro @hbE (And.intro @hgetc (And.intro @hkt (And.intro @encCall.eq_1 True.intro)))); refine WpM.regP [] ?_; intro K hK; refine s_o [(3, _)] rfl rfl rfl z_su rfl q_move z_fp z_ss ?_; refine s_o [(6, _)] rfl rfl rfl z_su rfl q_fieldAddr z_fp z_ss ?_; refine s_o [(103, _)] rfl rfl rfl z_su rfl q_load z_fp z_ss ?_; refine s_o [(9, _)] rfl rfl rfl z_su rfl q_move z_fp z_ss ?_; refine s_o [(104, _), (105, _)] rfl rfl rfl z_su rfl q_full z_fp z_ss ?_; refine s_o [(106, _)] rfl rfl rfl z_su rfl q_load z_fp z_ss ?_; refine s_o [(4, _)] rfl rfl rfl z_su rfl q_move z_fp z_ss ?_; refine s_call (callOf_eq rfl rfl rfl (mlk_tmp z_lk (mlk_tmp z_lk (mlk_tmp z_lk mlk_nil)))) (hE _ hLed (fun m hm => by have := (hO m hm).2; show m < nx3 + _; omega)) rfl rfl z_ip ?_; rintro _ z_S ⟨hnx, old, rfl, O4, hO4, hLed4⟩; refine s_put z_fp ?_; refine s_o [(109, _)] rfl rfl rfl z_su rfl q_full z_fp z_ss ?_; refine s_endE [(1, _), (3, _), (4, _), (6, _), (9, _), (110, _)] hK z_su ?_; clear hK K; clear z_ex)
                ((repeat refine WpM.seq ?_); refine WpM.condF (by (simp (maxSteps := 2000000) (disch := omega) [go_sem, -List.map_map])) ?_)
                refine WpM.skip ?_
                refine WpM.norm ?_
                intro nx4 G4 hnx4 hG4 hk4
                have h3 : nx4 = z_S.next + 1 := hnx4
                have h4 : nx3 ≤ z_S.next := Nat.le_trans (Nat.le_add_right _ _) hnx
                have hG4' : G4 = z_S.get := hG4
                have hO4' : ∀ m, O4 m → (O m ∨ nx3 ≤ m) ∧ m < nx4 := fun m hm => by
                  obtain ⟨h1, h2⟩ := hO4 m hm
                  exact ⟨h1.imp id (fun h => Nat.le_trans (Nat.le_add_right _ _) h), by omega⟩
                have old' : ∀ m k, ¬ O m → G m = some k → G4 m = some k := fun m k h1 h2 => by rw [hG4']; exact old m k h1 h2
                have hLed4' : BookAt G4 L b4 O4 := by rw [hG4']; exact hLed4
                clear hnx4 hG4 hG4' hO4 old hLed4 hE hwf3 hwf0 hk4 he
                ((repeat refine WpM.seq ?_); have z_ex := (And.intro @wrap_id True.intro); refine WpM.regPE [] [(1, _), (3, _), (4, _), (6, _), (9, _)] (by (refine s_o [(9, _)] rfl rfl rfl z_su rfl q_move z_fp z_ss ?_; refine s_o [(100, _)] rfl rfl rfl z_su rfl q_full z_fp z_ss ?_; refine s_o [(101, _)] rfl rfl rfl z_su rfl q_move z_fp z_ss ?_; exact wpS_nil ⟨rfl, rfl⟩)) z_su ?_; clear z_ex)
                refine round_end (x' := k + 1) (St.Le.refl _) (Sub.le z_su) ⟨by omega, _, G4, b4, O4, rfl, hnext, hLed4', fun m hm => ?_, ?_, ?_, fun h => ?_, old' ne _ hOE hbE, old' n0 _ (fun h => ?_) hbx, fun m q hq => old' m q (fun h => ?_) (hold m q hq), rfl⟩ (by omega)
                · obtain ⟨h1, h2⟩ := hO4' m hm
                  refine ⟨?_, by omega⟩
                  rcases h1 with h1 | h1
                  · exact (hO m h1).1
                  · omega
                · omega
                · omega
                · rcases (hO4' ne h).1 with h1 | h1
                  · exact hOE h1
                  · omega
                · have := (hO n0 h).1; omega
                · have := (hO m h).1; have h9 := hH m q hq; omega
            · ((repeat refine WpM.seq ?_); refine WpM.condF (by (simp (maxSteps := 2000000) (disch := omega) [go_sem, -List.map_map, hkt])) ?_)
              (refine WpM.exit ?_; (repeat (with_reducible (first | refine thenM_exit ?_ | refine blockM_eq ?_ | refine blockM_ne (by decide) ?_))))
              obtain rfl : k = ev.calls.length := by omega
              rw [List.take_length] at hent
              ((repeat refine WpM.seq ?_); have z_ex := (And.intro @wrap_id True.intro); refine WpM.regPE [] [(1, _), (3, _), (4, _)] (by (refine s_o [(4, _)] rfl rfl rfl z_su rfl q_move z_fp z_ss ?_; refine s_o [(27, _)] rfl rfl rfl z_su rfl q_full z_fp z_ss ?_; refine s_o [(28, _)] rfl rfl rfl z_su rfl q_move z_fp z_ss ?_; exact wpS_nil ⟨rfl, rfl⟩)) z_su ?_; clear z_ex)
              exact round_end (x' := i + 1) (St.Le.refl _) (Sub.le z_su) ⟨by omega, _, G, b3, O, rfl, by rw [hst']; exact hent, hLed, fun m hm => ⟨(hO m hm).1, by have := (hO m hm).2; omega⟩, by omega, hbx, hold, rfl⟩ (by omega)
  · ((repeat refine WpM.seq ?_); refine WpM.condF (by (simp (maxSteps := 2000000) (disch := omega) [go_sem, -List.map_map, hit])) ?_)
    (refine WpM.exit ?_; (repeat (with_reducible (first | refine thenM_exit ?_ | refine blockM_eq ?_ | refine blockM_ne (by decide) ?_))))
    obtain rfl : i = h.txns.length := by omega
    have hr : checkB h = true := by simp [checkB, ← hnm, hst]; omega
    rw [hr, errno_t']
    ((repeat refine WpM.seq ?_); have z_ex := True.intro; refine WpM.regPE [] [(2, _)] (by (refine s_o [] rfl rfl rfl z_su rfl q_move z_fp z_ss ?_; exact wpS_nil ⟨rfl, rfl⟩)) z_su ?_; clear z_ex)
    refine WpM.ret ?_
    exact ⟨.inr rfl, Upd.done ⟨_, (by (simp (maxSteps := 2000000) (disch := omega) [go_sem, -List.map_map, resV, resVs, resV1])), rfl, fun m k _ hk => by have h9 := hH _ _ hk; have h8 := hold m k hk; have h7 := hGk m k h8; (simp (maxSteps := 2000000) (disch := omega) [go_sem, -List.map_map, h8])⟩⟩
end Go.Proofs.Ytjjmedgibcffhaa
