/- assizeref05.(*book).enter. -/
import Derived.Test.YtjjmedgibcffhaaROp2
import Derived.Test.YtjjmedgibcffhaaRIx5
import Derived.Test.YtjjmedgibcffhaaRIx6
namespace Go.Proofs.Ytjjmedgibcffhaa
open Go.RowKit M
set_option linter.unusedSimpArgs false
set_option linter.unusedVariables false
set_option maxHeartbeats 8000000 in
theorem find51m (l : List ByteArray) (s : ByteArray) (hl : l.length ≤ 140737488351232) (nk : Nat) (S : St) (hS : S.get nk = some (.row 1 (l.map fun s => .d (.str s)))) : PureS Try.prog 51 [.ms nk 1 0 l.length, .d (.str s)] (.d (.int .i64 (findI l s))) S := by
  refine PureS.of (n := 19) Try.func51 rfl rfl (by simp) (by simp only [argL, Nat.reduceAdd] <;> rfl) rfl ?_
  intro n0 H hH0 hH
  rw [hH0] at hS
  ((repeat refine WpM.seq ?_); have z_ex := True.intro; refine WpM.regPE [] [(0, _), (1, _)] (by (refine s_m [] ?_; exact wpS_nil ⟨rfl, rfl⟩)) z_su ?_; clear z_ex)
  ((repeat refine WpM.seq ?_); have z_ex := True.intro; refine WpM.regPE [] [(0, _), (1, _), (5, _)] (by (refine s_m [] ?_; exact wpS_nil ⟨rfl, rfl⟩)) z_su ?_; clear z_ex)
  ((repeat refine WpM.seq ?_); refine WpM.block ?_)
  refine WpM.loop (fun (j : Nat) fr S => j ≤ l.length ∧ (∀ i (h : i < l.length), i < j → l[i] ≠ s) ∧ fr = frOf [(0, .ms nk 1 0 l.length), (1, .d (.str s)), (5, .d (.int .i64 j))] ∧ ∃ nx, S = ⟨nx, [], H⟩) (fun j => l.length - j) 0 (St.Le.refl _) (frLe_frOf (by (simp (maxSteps := 2000000) (disch := omega) [go_sem, -List.map_map]))) ⟨by omega, by simp, rfl, _, rfl⟩ ?_
  rintro j fr S' ⟨hj, hall, rfl, nx, rfl⟩
  ((repeat refine WpM.seq ?_); have z_ex := True.intro; refine WpM.regPE [] [(0, _), (1, _), (5, _), (9, _)] (by (refine s_m [(5, _)] ?_; refine s_m [(0, _)] ?_; refine s_q [(7, _)] ?_; refine s_q [(6, _), (8, _)] ?_; exact wpS_nil ⟨rfl, rfl⟩)) z_su ?_; clear z_ex)
  by_cases hlt : j < l.length
  · ((repeat refine WpM.seq ?_); refine WpM.condT (by (simp (maxSteps := 2000000) (disch := omega) [go_sem, -List.map_map, hlt])) ?_)
    refine WpM.skip ?_
    ((repeat refine WpM.seq ?_); refine WpM.block ?_)
    have hget : (l.map fun s => V.d (.str s))[j]? = some (.d (.str l[j])) := by simp [hlt]
    ((repeat refine WpM.seq ?_); have z_ex := (And.intro @hS (And.intro @hget (And.intro @hlt True.intro))); refine WpM.regPE [] [(0, _), (1, _), (5, _), (17, _)] (by (refine s_m [(0, _)] ?_; refine s_m [(5, _)] ?_; refine s_q [(12, _), (13, _)] ?_; refine s_l [(14, _)] ?_; refine s_m [(1, _)] ?_; refine s_q [(15, _), (16, _)] ?_; exact wpS_nil ⟨rfl, rfl⟩)) z_su ?_; clear z_ex)
    by_cases he : l[j] = s
    · ((repeat refine WpM.seq ?_); refine WpM.condT (by (simp (maxSteps := 2000000) (disch := omega) [go_sem, -List.map_map, he])) ?_)
      ((repeat refine WpM.seq ?_); have z_ex := True.intro; refine WpM.regPE [] [(4, _)] (by (refine s_m [(5, _)] ?_; refine s_m [(18, _)] ?_; exact wpS_nil ⟨rfl, rfl⟩)) z_su ?_; clear z_ex)
      have hf : findI l s = j := by rw [findI, findN_hit l s j hlt hall he]
      (refine WpM.ret ?_; refine ⟨.inr rfl, Upd.done ?_⟩; (simp (maxSteps := 2000000) (disch := omega) [go_sem, -List.map_map, resV, resVs, resV1, hf]))
    · ((repeat refine WpM.seq ?_); refine WpM.condF (by (simp (maxSteps := 2000000) (disch := omega) [go_sem, -List.map_map, he])) ?_)
      refine WpM.skip ?_
      ((repeat refine WpM.seq ?_); have z_ex := (And.intro @wrap_id True.intro); refine WpM.regPE [] [(0, _), (1, _), (5, _)] (by (refine s_m [(5, _)] ?_; refine s_q [(10, _)] ?_; refine s_m [(11, _)] ?_; exact wpS_nil ⟨rfl, rfl⟩)) z_su ?_; clear z_ex)
      have hall' : ∀ i (h : i < l.length), i < j + 1 → l[i] ≠ s := fun i h hi => by
        rcases Nat.lt_or_ge i j with h' | h'
        · exact hall i h h'
        · obtain rfl : i = j := by omega
          exact he
      exact round_end (x' := j + 1) (St.Le.refl _) (frLe_frOf (by (simp (maxSteps := 2000000) (disch := omega) [go_sem, -List.map_map, wrap_id]))) ⟨by omega, hall', rfl, _, rfl⟩ (by omega)
  · ((repeat refine WpM.seq ?_); refine WpM.condF (by (simp (maxSteps := 2000000) (disch := omega) [go_sem, -List.map_map, hlt])) ?_)
    (refine WpM.exit ?_; (repeat (with_reducible (first | refine thenM_exit ?_ | refine blockM_eq ?_ | refine blockM_ne (by decide) ?_))))
    obtain rfl : j = l.length := by omega
    have hf : findI l s = -1 := by rw [findI, findN_no l s fun h => by obtain ⟨i, hi, e⟩ := List.getElem_of_mem h; exact hall i hi hi e]
    ((repeat refine WpM.seq ?_); have z_ex := True.intro; refine WpM.regPE [] [(4, _)] (by (refine s_m [] ?_; exact wpS_nil ⟨rfl, rfl⟩)) z_su ?_; clear z_ex)
    (refine WpM.ret ?_; refine ⟨.inr rfl, Upd.done ?_⟩; (simp (maxSteps := 2000000) (disch := omega) [go_sem, -List.map_map, resV, resVs, resV1, hf]))
set_option maxHeartbeats 8000000 in
theorem enter50 (b : Bk) (n : Nat) (hn : n ≤ 1000000) (hw : b.Wf n) (c : CallD) (hk1 : 1 ≤ c.kind) (hk8 : c.kind ≤ 8) (who : Int) (hwho : 0 ≤ who) (L : Nat) (O : Nat → Prop) (S : St) (hL : BookAt S.get L b O) (hO : ∀ m, O m → m < S.next) :
    CallM Try.prog 50 [.ptr L 0, .d (encCall c), .d (.int .i64 who)] S fun r S' => EntP BookAt S.next S.get L O (enterB b c who) r S' := by
  refine CallM.start (n := 178) Try.func50 rfl rfl (by simp) (by simp only [argL, Nat.reduceAdd] <;> rfl) ?_
  intro hH
  obtain ⟨H, hHe⟩ : ∃ H, H = S.get := ⟨_, rfl⟩
  obtain ⟨n0, hne⟩ : ∃ n0, n0 = S.next := ⟨_, rfl⟩
  rw [← hHe, ← hne] at hH ⊢
  rw [← hHe] at hL
  rw [← hne] at hO
  obtain ⟨nk, nt, nw, ni, nl, ws, r, hN⟩ := hL
  obtain ⟨q1, q2, q3, q4, q5, q6⟩ := hN.box_ne
  obtain ⟨a1, a2, a3, a4, a5, a6, a7, a8, a9, a10⟩ := hN.ne
  have gL : L < n0 := hO _ hN.oL
  have gk : nk < n0 := hO _ hN.ok
  have gt : nt < n0 := hO _ hN.ot
  have gw : nw < n0 := hO _ hN.ow
  have gi : ni < n0 := hO _ hN.oi
  have gl : nl < n0 := hO _ hN.ol
  have k1 := hN.box
  have k2 := hN.keys
  have hkl := hw.keys
  have hfi := fun S h => find51m b.keys c.key (by omega) nk S h
  ((repeat refine WpM.seq ?_); have z_ex := (And.intro @encCall.eq_1 True.intro); refine WpM.regPE [] [(0, _), (2, _), (4, _)] (by (refine s_b [(1, _)] ?_; refine s_m [] ?_; exact wpS_nil ⟨rfl, rfl⟩)) z_su ?_; clear z_ex)
  ((repeat refine WpM.seq ?_); have z_ex := (And.intro @k1 (And.intro @k2 True.intro)); refine WpM.drwPE [] [(0, _), (2, _), (4, _), (7, _)] mixed (by kernel_rfl) (by kernel_rfl) [] (by kernel_rfl) (by (refine d_m [(0, _)] ?_; refine d_m [(9, _)] ?_; refine d_f [(10, _)] ?_; refine d_l [(11, _)] ?_; refine d_f [(4, _)] ?_; refine d_l [(13, _)] ?_; refine wpD_on [nk] rfl rfl (callOf_eq rfl rfl rfl (mlk_tmp z_lk (mlk_tmp z_lk mlk_nil))) z_ip rfl (fun S' h => hfi S' (by rw [h nk (by simp)]; simp (disch := omega) [go_sem, k2])) z_fp ?_; refine d_m [(15, _)] ?_; exact d_end z_mt z_sn)) z_su ?_; clear z_ex)
  refine WpM.seq ?_
  refine wpMid (Mid := fun (fr : Fr) (S' : St) => ∃ b1 k O1, addB b c = some (b1, k) ∧ BookAt S'.get L b1 O1 ∧ (∀ m, O1 m → (O m ∨ n0 < m) ∧ m < S'.next) ∧ n0 < S'.next ∧ S'.get n0 = some (.box [.d (.int .i64 c.kind), .d (.str c.key), .d (.int .i64 c.arg), .d (.bool c.got), .d (.sl (c.vals.map (D.int .i64)))]) ∧ (∀ m k, ¬ O m → H m = some k → S'.get m = some k) ∧ FrLe fr (frOf [(0, .ptr L 0), (2, .d (.int .i64 who)), (4, .ptr n0 0), (7, .d (.int .i64 k))])) ?_ ?_
  · cases hf : findN b.keys c.key with
    | none =>
      have hfi0 : findI b.keys c.key = -1 := by rw [findI, hf]
      ((repeat refine WpM.seq ?_); have z_ex := (And.intro @hfi0 True.intro); refine WpM.regPE [] [(0, _), (2, _), (4, _), (7, _), (17, _)] (by (refine s_m [(7, _)] ?_; refine s_q [(16, _)] ?_; exact wpS_nil ⟨rfl, rfl⟩)) z_su ?_; clear z_ex)
      ((repeat refine WpM.seq ?_); refine WpM.condT (by (simp (maxSteps := 2000000) (disch := omega) [go_sem, -List.map_map, hfi0])) ?_)
      ((repeat refine WpM.seq ?_); have z_ex := (And.intro @k1 True.intro); refine WpM.regPE [] [(0, _), (2, _), (4, _), (23, _)] (by (refine s_m [(0, _)] ?_; refine s_m [(18, _)] ?_; refine s_f [(19, _)] ?_; refine s_l [(20, _)] ?_; refine s_q [(21, _)] ?_; refine s_q [(22, _)] ?_; exact wpS_nil ⟨rfl, rfl⟩)) z_su ?_; clear z_ex)
      by_cases hl : b.keys.length = 32
      · have hl' : (32 : Int) ≤ b.keys.length := by omega
        ((repeat refine WpM.seq ?_); refine WpM.condT (by (simp (maxSteps := 2000000) (disch := omega) [go_sem, -List.map_map, hl'])) ?_)
        have he : enterB b c who = .error 2 := by simp [enterB, addB, hf, hl]
        rw [he]
        ((repeat refine WpM.seq ?_); have z_ex := True.intro; refine WpM.regPE [] [(6, _)] (by (refine s_m [] ?_; exact wpS_nil ⟨rfl, rfl⟩)) z_su ?_; clear z_ex)
        refine WpM.ret ?_
        refine ⟨.inr rfl, Upd.done ⟨_, (by (simp (maxSteps := 2000000) (disch := omega) [go_sem, -List.map_map, resV, resVs, resV1])), (by show n0 ≤ n0 + _; omega), fun m k _ hk => ?_, rfl, by decide⟩⟩
        have := hH _ _ hk
        (simp (maxSteps := 2000000) (disch := omega) [go_sem, -List.map_map, hk])
      · have hl' : (b.keys.length : Int) < 32 := by omega
        ((repeat refine WpM.seq ?_); refine WpM.condF (by (simp (maxSteps := 2000000) (disch := omega) [go_sem, -List.map_map, hl'])) ?_)
        refine WpM.skip ?_
        have ht := of35 c.kind hk1 hk8
        have k4 := hN.types
        have k5 := hN.wr
        have k6 := hN.incs
        have k7 := hN.last
        have htl := hw.types
        have hwl := hw.wrote
        have hil := hw.incs
        have hwn := hN.wlen
        have t1 : (b.keys.map fun s => V.d (.str s)).take b.keys.length = b.keys.map fun s => V.d (.str s) := List.take_of_length_le (by simp)
        have t2 : (b.types.map fun s => V.d (.int .i64 s)).take b.types.length = b.types.map fun s => V.d (.int .i64 s) := List.take_of_length_le (by simp)
        have t3 : ws.take b.wrote.length = ws := List.take_of_length_le (by omega)
        have t4 : (b.incs.map fun l => V.d (.int .i64 l.length)).take b.incs.length = b.incs.map fun l => V.d (.int .i64 l.length) := List.take_of_length_le (by simp)
        have t5 : (b.incs.map fun l => V.d (.int .i64 (lastD l))).take b.incs.length = b.incs.map fun l => V.d (.int .i64 (lastD l)) := List.take_of_length_le (by simp)
        ((repeat refine WpM.seq ?_); have z_ex := (And.intro @k1 True.intro); refine WpM.regPE [] [(0, _), (2, _), (4, _), (7, _)] (by (refine s_m [(0, _)] ?_; refine s_m [(24, _)] ?_; refine s_f [(25, _)] ?_; refine s_l [(26, _)] ?_; refine s_q [(27, _)] ?_; refine s_m [(28, _)] ?_; exact wpS_nil ⟨rfl, rfl⟩)) z_su ?_; clear z_ex)
        ((repeat refine WpM.seq ?_); have z_ex := (And.intro @k1 (And.intro @k2 (And.intro @t1 True.intro))); refine WpM.drwPE [] [(0, _), (2, _), (4, _), (7, _)] mixed (by kernel_rfl) (by kernel_rfl) [(4, 7)] (by kernel_rfl) (by (refine d_m [(0, _)] ?_; refine d_m [(0, _)] ?_; refine d_m [(30, _)] ?_; refine d_f [(31, _)] ?_; refine d_l [(32, _)] ?_; refine d_f [(4, _)] ?_; refine d_l [(34, _)] ?_; refine d_q [(35, _)] ?_; refine d_q [(33, _), (36, _)] ?_; refine d_m [(29, _)] ?_; refine d_f [(38, _)] ?_; refine d_s [(37, _), (39, _)] ?_; exact d_end z_mt z_sn)) z_su ?_; clear z_ex)
        ((repeat refine WpM.seq ?_); have z_ex := (And.intro @k1 (And.intro @k4 (And.intro @t2 True.intro))); refine WpM.drwPE [] [(0, _), (2, _), (4, _), (7, _)] mixed (by kernel_rfl) (by kernel_rfl) [(4, 7), (4, 8)] (by kernel_rfl) (by (refine d_m [(0, _)] ?_; refine d_m [(0, _)] ?_; refine d_m [(41, _)] ?_; refine d_f [(42, _)] ?_; refine d_l [(43, _)] ?_; refine d_f [(4, _)] ?_; refine d_l [(45, _)] ?_; refine d_pure (callOf_eq rfl rfl rfl (mlk_tmp z_lk mlk_nil)) (ht) rfl rfl z_ip rfl z_fp ?_; refine d_q [(47, _)] ?_; refine d_q [(44, _), (48, _)] ?_; refine d_m [(40, _)] ?_; refine d_f [(50, _)] ?_; refine d_s [(49, _), (51, _)] ?_; exact d_end z_mt z_sn)) z_su ?_; clear z_ex)
        ((repeat refine WpM.seq ?_); have z_ex := (And.intro @k1 (And.intro @k5 (And.intro @t3 (And.intro @hwn True.intro)))); refine WpM.regPE [] [(0, _), (2, _), (4, _), (7, _)] (by (refine s_m [(0, _)] ?_; refine s_m [(0, _)] ?_; refine s_m [(53, _)] ?_; refine s_f [(54, _)] ?_; refine s_l [(55, _)] ?_; refine s_q [] ?_; refine s_q [(56, _), (57, _)] ?_; refine s_m [(52, _)] ?_; refine s_f [(59, _)] ?_; refine s_s [(58, _), (60, _)] ?_; exact wpS_nil ⟨rfl, rfl⟩)) z_su ?_; clear z_ex)
        ((repeat refine WpM.seq ?_); have z_ex := (And.intro @k1 (And.intro @k6 (And.intro @t4 True.intro))); refine WpM.regPE [] [(0, _), (2, _), (4, _), (7, _)] (by (refine s_m [(0, _)] ?_; refine s_m [(0, _)] ?_; refine s_m [(62, _)] ?_; refine s_f [(63, _)] ?_; refine s_l [(64, _)] ?_; refine s_q [] ?_; refine s_q [(65, _), (66, _)] ?_; refine s_m [(61, _)] ?_; refine s_f [(68, _)] ?_; refine s_s [(67, _), (69, _)] ?_; exact wpS_nil ⟨rfl, rfl⟩)) z_su ?_; clear z_ex)
        ((repeat refine WpM.seq ?_); have z_ex := (And.intro @k1 (And.intro @k7 (And.intro @t5 True.intro))); refine WpM.regPE [] [(0, _), (2, _), (4, _), (7, _)] (by (refine s_m [(0, _)] ?_; refine s_m [(0, _)] ?_; refine s_m [(71, _)] ?_; refine s_f [(72, _)] ?_; refine s_l [(73, _)] ?_; refine s_q [] ?_; refine s_q [(74, _), (75, _)] ?_; refine s_m [(70, _)] ?_; refine s_f [(77, _)] ?_; refine s_s [(76, _), (78, _)] ?_; exact wpS_nil ⟨rfl, rfl⟩)) z_su ?_; clear z_ex)
        have o1 : ¬ O (n0 + 32) := fun h => by have := hO _ h; omega
        have o2 : ¬ O (n0 + 45) := fun h => by have := hO _ h; omega
        have o3 : ¬ O (n0 + 55) := fun h => by have := hO _ h; omega
        have o4 : ¬ O (n0 + 65) := fun h => by have := hO _ h; omega
        have o5 : ¬ O (n0 + 75) := fun h => by have := hO _ h; omega
        refine ⟨b.push c, b.keys.length, fun m => O m ∨ m = n0 + 32 ∨ m = n0 + 45 ∨ m = n0 + 55 ∨ m = n0 + 65 ∨ m = n0 + 75, by simp [addB, hf, hl], hN.push hw o1 o2 o3 o4 o5 (by omega) (by (simp (maxSteps := 2000000) (disch := omega) [go_sem, -List.map_map])) (by (simp (maxSteps := 2000000) (disch := omega) [go_sem, -List.map_map])) (by (simp (maxSteps := 2000000) (disch := omega) [go_sem, -List.map_map])) (by (simp (maxSteps := 2000000) (disch := omega) [go_sem, -List.map_map])) (by (simp (maxSteps := 2000000) (disch := omega) [go_sem, -List.map_map])) (by (simp (maxSteps := 2000000) (disch := omega) [go_sem, -List.map_map])) (fun m k h1 h2 h3 h4 h5 h6 ho hk => ?_), fun m hm => ?_, ?_, ?_, fun m k ho hk => ?_, FrLe.refl _⟩
        · have := hO _ ho
          (simp (maxSteps := 2000000) (disch := omega) [go_sem, -List.map_map, hk])
        · show _ ∧ m < n0 + 79
          rcases hm with hm | hm
          · have := hO _ hm; exact ⟨.inl hm, by omega⟩
          · exact ⟨.inr (by omega), by omega⟩
        · show n0 < n0 + 79; omega
        · (simp (maxSteps := 2000000) (disch := omega) [go_sem, -List.map_map])
        · have h1 : m ≠ L := fun e => ho (e ▸ hN.oL)
          have h2 : m ≠ nk := fun e => ho (e ▸ hN.ok)
          have h3 : m ≠ nt := fun e => ho (e ▸ hN.ot)
          have h4 : m ≠ nw := fun e => ho (e ▸ hN.ow)
          have h5 : m ≠ ni := fun e => ho (e ▸ hN.oi)
          have h6 : m ≠ nl := fun e => ho (e ▸ hN.ol)
          have := hH _ _ hk
          (simp (maxSteps := 2000000) (disch := omega) [go_sem, -List.map_map, hk])
    | some k =>
      have hfi0 : findI b.keys c.key = k := by rw [findI, hf]
      have hge : ¬ ((k : Int) < 0) := by omega
      ((repeat refine WpM.seq ?_); have z_ex := (And.intro @hfi0 (And.intro @hge True.intro)); refine WpM.regPE [] [(0, _), (2, _), (4, _), (7, _), (17, _)] (by (refine s_m [(7, _)] ?_; refine s_q [(16, _)] ?_; exact wpS_nil ⟨rfl, rfl⟩)) z_su ?_; clear z_ex)
      ((repeat refine WpM.seq ?_); refine WpM.condF (by (simp (maxSteps := 2000000) (disch := omega) [go_sem, -List.map_map, hfi0, hge])) ?_)
      refine WpM.skip ?_
      refine ⟨b, k, O, by simp [addB, hf], ?_, fun m hm => ⟨.inl hm, ?_⟩, ?_, ?_, fun m k ho hk => ?_, ?_⟩
      · refine BookAt.same (G := H) ⟨nk, nt, nw, ni, nl, ws, r, hN⟩ fun m k ho hk => ?_
        have := hO _ ho
        (simp (maxSteps := 2000000) (disch := omega) [go_sem, -List.map_map, hk])
      · have := hO _ hm; show m < n0 + _; omega
      · show n0 < n0 + _; omega
      · (simp (maxSteps := 2000000) (disch := omega) [go_sem, -List.map_map])
      · have := hH _ _ hk
        (simp (maxSteps := 2000000) (disch := omega) [go_sem, -List.map_map, hk])
      · exact frLe_frOf (by (simp (maxSteps := 2000000) (disch := omega) [go_sem, -List.map_map, hfi0]))
  clear hfi k1 k2 hN q1 q2 q3 q4 q5 q6 a1 a2 a3 a4 a5 a6 a7 a8 a9 a10 gL gk gt gw gi gl
  rintro fr S' ⟨b1, k, O1, hadd, ⟨nk, nt, nw, ni, nl, ws, r, hN⟩, hO1, hnx, hc, old, hfr⟩
  refine WpM.less (St.Le.refl _) hfr ?_
  refine WpM.norm ?_
  intro nx G hnx2 hG2 hGk
  rw [← hG2] at hN hc old
  rw [← hnx2] at hnx hO1
  clear hG2 hnx2 hfr
  obtain ⟨hw1, hf1⟩ := addB_wf hw hadd
  have hen : enterB b c who = putB b1 k c who := by simp [enterB, hadd]
  rw [hen]
  clear hen hadd
  obtain ⟨q1, q2, q3, q4, q5, q6⟩ := hN.box_ne
  obtain ⟨a1, a2, a3, a4, a5, a6, a7, a8, a9, a10⟩ := hN.ne
  have on0 : ¬ O1 n0 := fun h => by
    rcases (hO1 _ h).1 with h' | h'
    · have := hO _ h'; omega
    · omega
  have gL : L < nx := (hO1 _ hN.oL).2
  have gk : nk < nx := (hO1 _ hN.ok).2
  have gt : nt < nx := (hO1 _ hN.ot).2
  have gw : nw < nx := (hO1 _ hN.ow).2
  have gi : ni < nx := (hO1 _ hN.oi).2
  have gl : nl < nx := (hO1 _ hN.ol).2
  have nL : n0 ≠ L := fun e => on0 (e ▸ hN.oL)
  have nt0 : n0 ≠ nt := fun e => on0 (e ▸ hN.ot)
  have nw0 : n0 ≠ nw := fun e => on0 (e ▸ hN.ow)
  have ni0 : n0 ≠ ni := fun e => on0 (e ▸ hN.oi)
  have nl0 : n0 ≠ nl := fun e => on0 (e ▸ hN.ol)
  have k1 := hN.box
  have k5 := hN.types
  have k8 := hN.wr
  have k10 := hN.incs
  have k11 := hN.last
  have hkl := findN_lt hf1
  have htl := hw1.types
  have hwl := hw1.wrote
  have hil := hw1.incs
  have hwn := hN.wlen
  have hkl32 := hw1.keys
  have hkt1 : k < b1.types.length := by omega
  have hkw : k < b1.wrote.length := by omega
  have hki : k < b1.incs.length := by omega
  obtain ⟨ty, hty0⟩ : ∃ ty, ty = b1.types.getD k 0 := ⟨_, rfl⟩
  have hgt : (b1.types.map fun t => V.d (.int .i64 t))[k]? = some (.d (.int .i64 ty)) := by rw [hty0]; simp [hkt1]
  have ht := of35 c.kind hk1 hk8
  have oldO : ∀ m k, ¬ O m → H m = some k → m < nx ∧ G m = some k ∧ m ≠ n0 := fun m k ho hk => by
    have h1 := old m k ho hk
    have h2 := hGk _ _ h1
    have h3 := hH _ _ hk
    exact ⟨h2, h1, by omega⟩
  have onO : ∀ m, O1 m → ∀ q k, ¬ O q → H q = some k → q ≠ m := fun m hm q k ho hk e => by
    rcases (hO1 _ hm).1 with h | h
    · exact ho (e ▸ h)
    · have := hH _ _ hk; omega
  ((repeat refine WpM.seq ?_); have z_ex := (And.intro @k1 (And.intro @k5 (And.intro @hgt (And.intro @hkt1 (And.intro @hc True.intro))))); refine WpM.drwPE [] [(0, _), (2, _), (4, _), (7, _), (89, _)] mixed (by kernel_rfl) (by kernel_rfl) [(3, 9), (6, 9)] (by kernel_rfl) (by (refine d_m [(0, _)] ?_; refine d_m [(79, _)] ?_; refine d_f [(80, _)] ?_; refine d_l [(81, _)] ?_; refine d_m [(7, _)] ?_; refine d_q [(82, _), (83, _)] ?_; refine d_l [(84, _)] ?_; refine d_f [(4, _)] ?_; refine d_l [(86, _)] ?_; refine d_pure (callOf_eq rfl rfl rfl (mlk_tmp z_lk mlk_nil)) (ht) rfl rfl z_ip rfl z_fp ?_; refine d_q [(85, _), (88, _)] ?_; exact d_end z_mt z_sn)) z_su ?_; clear z_ex)
  by_cases hty : ty = tyOf c.kind
  · ((repeat refine WpM.seq ?_); refine WpM.condF (by (simp (maxSteps := 2000000) (disch := omega) [go_sem, -List.map_map, hty])) ?_)
    refine WpM.skip ?_
    have hput : putB b1 k c who = if c.kind = 2 ∨ c.kind = 3 then
        if c.arg ∈ b1.wrote.getD k [] then .error 3 else .ok { b1 with wrote := b1.wrote.set k (b1.wrote.getD k [] ++ [c.arg]) }
      else if c.kind = 4 then
        if 8 < (incNext (b1.incs.getD k []) who).length then .error 51 else .ok { b1 with incs := b1.incs.set k (incNext (b1.incs.getD k []) who) }
      else .ok b1 := by rw [putB, ← hty0, if_neg (by simpa using hty)]
    rw [hput]
    clear hput
    by_cases h23 : c.kind = 2 ∨ c.kind = 3
    · rw [if_pos h23]
      have hw0 := hN.w0 k (by omega)
      have hwk := hN.w1 k
      have hwlen := hw1.wlen k
      have hq6 := q6 k
      obtain ⟨wl, hwl0⟩ : ∃ wl, wl = b1.wrote.getD k [] := ⟨_, rfl⟩
      rw [← hwl0] at hw0 hwk hwlen hq6 ⊢
      have h4 : ¬ c.kind = 4 := by omega
      have fin : ∀ (S2 : St) (nr : Nat), nx ≤ nr → nr < S2.next → S2.get nw = some (.row 1 (ws.set k (.ms nr 1 0 (wl.length + 1)))) → S2.get nr = some (.row 1 ((wl.map fun t => .d (.int .i64 t)) ++ [.d (.int .i64 c.arg)])) →
          (∀ m q, m ≠ nw → (wl ≠ [] → m ≠ r k) → m < nx → G m = some q → S2.get m = some q) → EntP BookAt n0 H L O (.ok { b1 with wrote := b1.wrote.set k (wl ++ [c.arg]) }) (.d (.int .i64 0)) S2 := by
        intro S2 nr h1 h2 h3 h5 h6
        refine ⟨by omega, fun m q ho hk => ?_, rfl, fun m => O1 m ∨ m = nr, fun m hm => ?_, ?_⟩
        · obtain ⟨b1, b2, b3⟩ := oldO m q ho hk
          exact h6 m q (onO _ hN.ow m q ho hk) (fun hne => onO _ (hwk hne).2.2.1 m q ho hk) b1 b2
        · rcases hm with hm | rfl
          · have := hO1 m hm; exact ⟨this.1.imp id (fun h => by omega), by omega⟩
          · exact ⟨.inr (by omega), h2⟩
        · rw [hwl0] at h3 h5 ⊢
          exact hN.wrote (nr := nr) hw1 hkw (fun h => by have := (hO1 _ h).2; omega) h3 h5 fun m q e1 e2 ho hk => h6 m q e1 (by rw [hwl0]; exact e2) (hO1 _ ho).2 hk
      rcases h23 with h2 | h2
      · ((repeat refine WpM.seq ?_); have z_ex := (And.intro @hc (And.intro @h2 True.intro)); refine WpM.regPE [] [(0, _), (2, _), (4, _), (7, _), (97, _)] (by (refine s_f [(4, _)] ?_; refine s_l [(90, _)] ?_; refine s_q [(91, _)] ?_; refine s_m [(92, _)] ?_; refine s_wit ?_; intro z_g; (first | refine s_skip rfl z_g z_fp ?_ | (refine s_f [(4, _)] ?_ (hg := z_g))); clear z_g; refine s_wit ?_; intro z_g; (first | refine s_skip rfl z_g z_fp ?_ | (refine s_l [(94, _)] ?_ (hg := z_g))); clear z_g; refine s_wit ?_; intro z_g; (first | refine s_skip rfl z_g z_fp ?_ | (refine s_q [(95, _)] ?_ (hg := z_g))); clear z_g; refine s_m [(93, _), (96, _)] ?_; exact wpS_nil ⟨rfl, rfl⟩)) z_su ?_; clear z_ex)
        ((repeat refine WpM.seq ?_); refine WpM.condT (by (simp (maxSteps := 2000000) (disch := omega) [go_sem, -List.map_map, h2])) ?_)
        ((repeat refine WpM.seq ?_); have z_ex := True.intro; refine WpM.regPE [] [(0, _), (2, _), (4, _), (7, _), (8, _)] (by (refine s_m [] ?_; exact wpS_nil ⟨rfl, rfl⟩)) z_su ?_; clear z_ex)
        ((repeat refine WpM.seq ?_); refine WpM.block ?_)
        by_cases hnil : wl = []
        · have hv := hw0 hnil
          refine WpM.loop (fun (j : Nat) fr S => fr = frOf [(0, .ptr L 0), (2, .d (.int .i64 who)), (4, .ptr n0 0), (7, .d (.int .i64 k)), (8, .d (.int .i64 0))] ∧ ∃ nx2, nx ≤ nx2 ∧ S = ⟨nx2, [], G⟩) (fun j => 0) 0 (St.Le.refl _) (frLe_frOf (by (simp (maxSteps := 2000000) (disch := omega) [go_sem, -List.map_map]))) ⟨rfl, _, ?_, rfl⟩ ?_
          · omega
          rintro j fr S2 ⟨rfl, nx2, hnx2, rfl⟩
          ((repeat refine WpM.seq ?_); have z_ex := (And.intro @k1 (And.intro @k8 (And.intro @hv (And.intro @hkw (And.intro @hwn True.intro))))); refine WpM.regPE [] [(0, _), (2, _), (4, _), (7, _), (8, _), (107, _)] (by (refine s_m [(8, _)] ?_; refine s_m [(0, _)] ?_; refine s_m [(99, _)] ?_; refine s_f [(100, _)] ?_; refine s_l [(101, _)] ?_; refine s_m [(7, _)] ?_; refine s_q [(102, _), (103, _)] ?_; refine s_l [(104, _)] ?_; refine s_q [(105, _)] ?_; refine s_q [(98, _), (106, _)] ?_; exact wpS_nil ⟨rfl, rfl⟩)) z_su ?_; clear z_ex)
          ((repeat refine WpM.seq ?_); refine WpM.condF (by (simp (maxSteps := 2000000) (disch := omega) [go_sem, -List.map_map])) ?_)
          (refine WpM.exit ?_; (repeat (with_reducible (first | refine thenM_exit ?_ | refine blockM_eq ?_ | refine blockM_ne (by decide) ?_))))
          rw [if_neg (by rw [hnil]; simp)]
          ((repeat refine WpM.seq ?_); have z_ex := (And.intro @k1 (And.intro @k8 (And.intro @hv (And.intro @hkw (And.intro @hwn (And.intro @hc True.intro)))))); refine WpM.drwPE [] [(0, _), (2, _), (4, _), (7, _)] mixed (by kernel_rfl) (by kernel_rfl) [(3, 14), (8, 14), (11, 14), (3, 15)] (by kernel_rfl) (by (refine d_m [(0, _)] ?_; refine d_m [(123, _)] ?_; refine d_f [(124, _)] ?_; refine d_l [(125, _)] ?_; refine d_m [(7, _)] ?_; refine d_m [(0, _)] ?_; refine d_m [(128, _)] ?_; refine d_f [(129, _)] ?_; refine d_l [(130, _)] ?_; refine d_m [(7, _)] ?_; refine d_q [(131, _), (132, _)] ?_; refine d_l [(133, _)] ?_; refine d_f [(4, _)] ?_; refine d_l [(135, _)] ?_; refine d_q [(136, _)] ?_; refine d_q [(134, _), (137, _)] ?_; refine d_q [(126, _), (127, _)] ?_; refine d_s [(138, _), (139, _)] ?_; exact d_end z_mt z_sn)) z_su ?_; clear z_ex)
          ((repeat refine WpM.seq ?_); have z_ex := (And.intro @hc (And.intro @h4 True.intro)); refine WpM.regPE [] [(0, _), (2, _), (7, _), (153, _)] (by (refine s_f [(4, _)] ?_; refine s_l [(140, _)] ?_; refine s_q [(141, _)] ?_; refine s_m [(142, _)] ?_; refine s_wit ?_; intro z_g; (first | refine s_skip rfl z_g z_fp ?_ | (refine s_m [(0, _)] ?_ (hg := z_g))); clear z_g; refine s_wit ?_; intro z_g; (first | refine s_skip rfl z_g z_fp ?_ | (refine s_m [(144, _)] ?_ (hg := z_g))); clear z_g; refine s_wit ?_; intro z_g; (first | refine s_skip rfl z_g z_fp ?_ | (refine s_f [(145, _)] ?_ (hg := z_g))); clear z_g; refine s_wit ?_; intro z_g; (first | refine s_skip rfl z_g z_fp ?_ | (refine s_l [(146, _)] ?_ (hg := z_g))); clear z_g; refine s_wit ?_; intro z_g; (first | refine s_skip rfl z_g z_fp ?_ | (refine s_m [(7, _)] ?_ (hg := z_g))); clear z_g; refine s_wit ?_; intro z_g; (first | refine s_skip rfl z_g z_fp ?_ | (refine s_q [(147, _), (148, _)] ?_ (hg := z_g))); clear z_g; refine s_wit ?_; intro z_g; (first | refine s_skip rfl z_g z_fp ?_ | (refine s_l [(149, _)] ?_ (hg := z_g))); clear z_g; refine s_wit ?_; intro z_g; (first | refine s_skip rfl z_g z_fp ?_ | (refine s_m [(2, _)] ?_ (hg := z_g))); clear z_g; refine s_wit ?_; intro z_g; (first | refine s_skip rfl z_g z_fp ?_ | (refine s_q [(150, _), (151, _)] ?_ (hg := z_g))); clear z_g; refine s_m [(143, _), (152, _)] ?_; exact wpS_nil ⟨rfl, rfl⟩)) z_su ?_; clear z_ex)
          ((repeat refine WpM.seq ?_); refine WpM.condF (by (simp (maxSteps := 2000000) (disch := omega) [go_sem, -List.map_map, h4])) ?_)
          refine WpM.skip ?_
          ((repeat refine WpM.seq ?_); have z_ex := True.intro; refine WpM.regPE [] [(6, _)] (by (refine s_m [] ?_; exact wpS_nil ⟨rfl, rfl⟩)) z_su ?_; clear z_ex)
          refine WpM.ret ?_
          refine ⟨.inr rfl, Upd.done ⟨_, (by (simp (maxSteps := 2000000) (disch := omega) [go_sem, -List.map_map, resV, resVs, resV1])), fin _ (nx2 + 25) (by omega) (by show nx2 + 25 < nx2 + _; omega) (by (simp (maxSteps := 2000000) (disch := omega) [go_sem, -List.map_map, hnil])) (by (simp (maxSteps := 2000000) (disch := omega) [go_sem, -List.map_map, hnil])) fun m q e1 e2 e3 hk => by (simp (maxSteps := 2000000) (disch := omega) [go_sem, -List.map_map, hk])⟩⟩
        · obtain ⟨w1, w2, w3, w4, w5, w6, w7, w8⟩ := hwk hnil
          have grk : r k < nx := (hO1 _ w3).2
          have hr0 : n0 ≠ r k := fun e => on0 (e ▸ w3)
          have hrL : r k ≠ L := hq6 hnil
          refine WpM.loop (fun (j : Nat) fr S => j ≤ wl.length ∧ (∀ i (h : i < wl.length), i < j → wl[i] ≠ c.arg) ∧ fr = frOf [(0, .ptr L 0), (2, .d (.int .i64 who)), (4, .ptr n0 0), (7, .d (.int .i64 k)), (8, .d (.int .i64 j))] ∧ ∃ nx2, nx ≤ nx2 ∧ S = ⟨nx2, [], G⟩) (fun j => wl.length - j) 0 (St.Le.refl _) (frLe_frOf (by (simp (maxSteps := 2000000) (disch := omega) [go_sem, -List.map_map]))) ⟨by omega, by simp, rfl, _, ?_, rfl⟩ ?_
          · omega
          rintro j fr S2 ⟨hj, hall, rfl, nx2, hnx2, rfl⟩
          ((repeat refine WpM.seq ?_); have z_ex := (And.intro @k1 (And.intro @k8 (And.intro @w1 (And.intro @hkw (And.intro @hwn True.intro))))); refine WpM.regPE [] [(0, _), (2, _), (4, _), (7, _), (8, _), (107, _)] (by (refine s_m [(8, _)] ?_; refine s_m [(0, _)] ?_; refine s_m [(99, _)] ?_; refine s_f [(100, _)] ?_; refine s_l [(101, _)] ?_; refine s_m [(7, _)] ?_; refine s_q [(102, _), (103, _)] ?_; refine s_l [(104, _)] ?_; refine s_q [(105, _)] ?_; refine s_q [(98, _), (106, _)] ?_; exact wpS_nil ⟨rfl, rfl⟩)) z_su ?_; clear z_ex)
          by_cases hlt : j < wl.length
          · ((repeat refine WpM.seq ?_); refine WpM.condT (by (simp (maxSteps := 2000000) (disch := omega) [go_sem, -List.map_map, hlt])) ?_)
            refine WpM.skip ?_
            ((repeat refine WpM.seq ?_); refine WpM.block ?_)
            have hget : (wl.map fun t => V.d (.int .i64 t))[j]? = some (.d (.int .i64 wl[j])) := by simp [hlt]
            ((repeat refine WpM.seq ?_); have z_ex := (And.intro @k1 (And.intro @k8 (And.intro @w1 (And.intro @w2 (And.intro @hkw (And.intro @hwn (And.intro @hc (And.intro @hget (And.intro @hlt True.intro))))))))); refine WpM.drwPE [] [(0, _), (2, _), (4, _), (7, _), (8, _), (122, _)] mixed (by kernel_rfl) (by kernel_rfl) [] (by kernel_rfl) (by (refine d_m [(0, _)] ?_; refine d_m [(110, _)] ?_; refine d_f [(111, _)] ?_; refine d_l [(112, _)] ?_; refine d_m [(7, _)] ?_; refine d_q [(113, _), (114, _)] ?_; refine d_l [(115, _)] ?_; refine d_m [(8, _)] ?_; refine d_q [(116, _), (117, _)] ?_; refine d_l [(118, _)] ?_; refine d_f [(4, _)] ?_; refine d_l [(120, _)] ?_; refine d_q [(119, _), (121, _)] ?_; exact d_end z_mt z_sn)) z_su ?_; clear z_ex)
            by_cases he : wl[j] = c.arg
            · ((repeat refine WpM.seq ?_); refine WpM.condT (by (simp (maxSteps := 2000000) (disch := omega) [go_sem, -List.map_map, he])) ?_)
              rw [if_pos (by rw [← he]; exact List.getElem_mem _)]
              ((repeat refine WpM.seq ?_); have z_ex := True.intro; refine WpM.regPE [] [(6, _)] (by (refine s_m [] ?_; exact wpS_nil ⟨rfl, rfl⟩)) z_su ?_; clear z_ex)
              refine WpM.ret ?_
              refine ⟨.inr rfl, Upd.done ⟨_, (by (simp (maxSteps := 2000000) (disch := omega) [go_sem, -List.map_map, resV, resVs, resV1])), (by show n0 ≤ nx2 + _; omega), fun m k ho hk => ?_, rfl, by decide⟩⟩
              obtain ⟨h1, h2, h3⟩ := oldO m k ho hk
              (simp (maxSteps := 2000000) (disch := omega) [go_sem, -List.map_map, h2])
            · ((repeat refine WpM.seq ?_); refine WpM.condF (by (simp (maxSteps := 2000000) (disch := omega) [go_sem, -List.map_map, he])) ?_)
              refine WpM.skip ?_
              ((repeat refine WpM.seq ?_); have z_ex := (And.intro @wrap_id True.intro); refine WpM.regPE [] [(0, _), (2, _), (4, _), (7, _), (8, _)] (by (refine s_m [(8, _)] ?_; refine s_q [(108, _)] ?_; refine s_m [(109, _)] ?_; exact wpS_nil ⟨rfl, rfl⟩)) z_su ?_; clear z_ex)
              have hall' : ∀ i (h : i < wl.length), i < j + 1 → wl[i] ≠ c.arg := fun i h hi => by
                rcases Nat.lt_or_ge i j with h' | h'
                · exact hall i h h'
                · obtain rfl : i = j := by omega
                  exact he
              refine round_end (x' := j + 1) (St.Le.refl _) (frLe_frOf (by (simp (maxSteps := 2000000) (disch := omega) [go_sem, -List.map_map, wrap_id]))) ⟨by omega, hall', rfl, _, ?_, rfl⟩ (by omega)
              omega
          · ((repeat refine WpM.seq ?_); refine WpM.condF (by (simp (maxSteps := 2000000) (disch := omega) [go_sem, -List.map_map, hlt])) ?_)
            (refine WpM.exit ?_; (repeat (with_reducible (first | refine thenM_exit ?_ | refine blockM_eq ?_ | refine blockM_ne (by decide) ?_))))
            obtain rfl : j = wl.length := by omega
            have hnin : c.arg ∉ wl := fun h => by obtain ⟨i, hi, e⟩ := List.getElem_of_mem h; exact hall i hi hi e
            rw [if_neg hnin]
            have htk : (wl.map fun t => V.d (.int .i64 t)).take wl.length = wl.map fun t => V.d (.int .i64 t) := List.take_of_length_le (by simp)
            ((repeat refine WpM.seq ?_); have z_ex := (And.intro @k1 (And.intro @k8 (And.intro @w1 (And.intro @w2 (And.intro @hkw (And.intro @hwn (And.intro @hc (And.intro @htk True.intro)))))))); refine WpM.drwPE [] [(0, _), (2, _), (4, _), (7, _)] mixed (by kernel_rfl) (by kernel_rfl) [(3, 14), (8, 14), (11, 14), (3, 15)] (by kernel_rfl) (by (refine d_m [(0, _)] ?_; refine d_m [(123, _)] ?_; refine d_f [(124, _)] ?_; refine d_l [(125, _)] ?_; refine d_m [(7, _)] ?_; refine d_m [(0, _)] ?_; refine d_m [(128, _)] ?_; refine d_f [(129, _)] ?_; refine d_l [(130, _)] ?_; refine d_m [(7, _)] ?_; refine d_q [(131, _), (132, _)] ?_; refine d_l [(133, _)] ?_; refine d_f [(4, _)] ?_; refine d_l [(135, _)] ?_; refine d_q [(136, _)] ?_; refine d_q [(134, _), (137, _)] ?_; refine d_q [(126, _), (127, _)] ?_; refine d_s [(138, _), (139, _)] ?_; exact d_end z_mt z_sn)) z_su ?_; clear z_ex)
            ((repeat refine WpM.seq ?_); have z_ex := (And.intro @hc (And.intro @h4 True.intro)); refine WpM.regPE [] [(0, _), (2, _), (7, _), (153, _)] (by (refine s_f [(4, _)] ?_; refine s_l [(140, _)] ?_; refine s_q [(141, _)] ?_; refine s_m [(142, _)] ?_; refine s_wit ?_; intro z_g; (first | refine s_skip rfl z_g z_fp ?_ | (refine s_m [(0, _)] ?_ (hg := z_g))); clear z_g; refine s_wit ?_; intro z_g; (first | refine s_skip rfl z_g z_fp ?_ | (refine s_m [(144, _)] ?_ (hg := z_g))); clear z_g; refine s_wit ?_; intro z_g; (first | refine s_skip rfl z_g z_fp ?_ | (refine s_f [(145, _)] ?_ (hg := z_g))); clear z_g; refine s_wit ?_; intro z_g; (first | refine s_skip rfl z_g z_fp ?_ | (refine s_l [(146, _)] ?_ (hg := z_g))); clear z_g; refine s_wit ?_; intro z_g; (first | refine s_skip rfl z_g z_fp ?_ | (refine s_m [(7, _)] ?_ (hg := z_g))); clear z_g; refine s_wit ?_; intro z_g; (first | refine s_skip rfl z_g z_fp ?_ | (refine s_q [(147, _), (148, _)] ?_ (hg := z_g))); clear z_g; refine s_wit ?_; intro z_g; (first | refine s_skip rfl z_g z_fp ?_ | (refine s_l [(149, _)] ?_ (hg := z_g))); clear z_g; refine s_wit ?_; intro z_g; (first | refine s_skip rfl z_g z_fp ?_ | (refine s_m [(2, _)] ?_ (hg := z_g))); clear z_g; refine s_wit ?_; intro z_g; (first | refine s_skip rfl z_g z_fp ?_ | (refine s_q [(150, _), (151, _)] ?_ (hg := z_g))); clear z_g; refine s_m [(143, _), (152, _)] ?_; exact wpS_nil ⟨rfl, rfl⟩)) z_su ?_; clear z_ex)
            ((repeat refine WpM.seq ?_); refine WpM.condF (by (simp (maxSteps := 2000000) (disch := omega) [go_sem, -List.map_map, h4])) ?_)
            refine WpM.skip ?_
            ((repeat refine WpM.seq ?_); have z_ex := True.intro; refine WpM.regPE [] [(6, _)] (by (refine s_m [] ?_; exact wpS_nil ⟨rfl, rfl⟩)) z_su ?_; clear z_ex)
            refine WpM.ret ?_
            refine ⟨.inr rfl, Upd.done ⟨_, (by (simp (maxSteps := 2000000) (disch := omega) [go_sem, -List.map_map, resV, resVs, resV1])), fin _ (nx2 + 25) (by omega) (by show nx2 + 25 < nx2 + _; omega) (by (simp (maxSteps := 2000000) (disch := omega) [go_sem, -List.map_map])) (by (simp (maxSteps := 2000000) (disch := omega) [go_sem, -List.map_map])) fun m q e1 e2 e3 hk => by have e4 := e2 hnil; (simp (maxSteps := 2000000) (disch := omega) [go_sem, -List.map_map, hk])⟩⟩
      · ((repeat refine WpM.seq ?_); have z_ex := (And.intro @hc (And.intro @h2 True.intro)); refine WpM.regPE [] [(0, _), (2, _), (4, _), (7, _), (97, _)] (by (refine s_f [(4, _)] ?_; refine s_l [(90, _)] ?_; refine s_q [(91, _)] ?_; refine s_m [(92, _)] ?_; refine s_wit ?_; intro z_g; (first | refine s_skip rfl z_g z_fp ?_ | (refine s_f [(4, _)] ?_ (hg := z_g))); clear z_g; refine s_wit ?_; intro z_g; (first | refine s_skip rfl z_g z_fp ?_ | (refine s_l [(94, _)] ?_ (hg := z_g))); clear z_g; refine s_wit ?_; intro z_g; (first | refine s_skip rfl z_g z_fp ?_ | (refine s_q [(95, _)] ?_ (hg := z_g))); clear z_g; refine s_m [(93, _), (96, _)] ?_; exact wpS_nil ⟨rfl, rfl⟩)) z_su ?_; clear z_ex)
        ((repeat refine WpM.seq ?_); refine WpM.condT (by (simp (maxSteps := 2000000) (disch := omega) [go_sem, -List.map_map, h2])) ?_)
        ((repeat refine WpM.seq ?_); have z_ex := True.intro; refine WpM.regPE [] [(0, _), (2, _), (4, _), (7, _), (8, _)] (by (refine s_m [] ?_; exact wpS_nil ⟨rfl, rfl⟩)) z_su ?_; clear z_ex)
        ((repeat refine WpM.seq ?_); refine WpM.block ?_)
        by_cases hnil : wl = []
        · have hv := hw0 hnil
          refine WpM.loop (fun (j : Nat) fr S => fr = frOf [(0, .ptr L 0), (2, .d (.int .i64 who)), (4, .ptr n0 0), (7, .d (.int .i64 k)), (8, .d (.int .i64 0))] ∧ ∃ nx2, nx ≤ nx2 ∧ S = ⟨nx2, [], G⟩) (fun j => 0) 0 (St.Le.refl _) (frLe_frOf (by (simp (maxSteps := 2000000) (disch := omega) [go_sem, -List.map_map]))) ⟨rfl, _, ?_, rfl⟩ ?_
          · omega
          rintro j fr S2 ⟨rfl, nx2, hnx2, rfl⟩
          ((repeat refine WpM.seq ?_); have z_ex := (And.intro @k1 (And.intro @k8 (And.intro @hv (And.intro @hkw (And.intro @hwn True.intro))))); refine WpM.regPE [] [(0, _), (2, _), (4, _), (7, _), (8, _), (107, _)] (by (refine s_m [(8, _)] ?_; refine s_m [(0, _)] ?_; refine s_m [(99, _)] ?_; refine s_f [(100, _)] ?_; refine s_l [(101, _)] ?_; refine s_m [(7, _)] ?_; refine s_q [(102, _), (103, _)] ?_; refine s_l [(104, _)] ?_; refine s_q [(105, _)] ?_; refine s_q [(98, _), (106, _)] ?_; exact wpS_nil ⟨rfl, rfl⟩)) z_su ?_; clear z_ex)
          ((repeat refine WpM.seq ?_); refine WpM.condF (by (simp (maxSteps := 2000000) (disch := omega) [go_sem, -List.map_map])) ?_)
          (refine WpM.exit ?_; (repeat (with_reducible (first | refine thenM_exit ?_ | refine blockM_eq ?_ | refine blockM_ne (by decide) ?_))))
          rw [if_neg (by rw [hnil]; simp)]
          ((repeat refine WpM.seq ?_); have z_ex := (And.intro @k1 (And.intro @k8 (And.intro @hv (And.intro @hkw (And.intro @hwn (And.intro @hc True.intro)))))); refine WpM.drwPE [] [(0, _), (2, _), (4, _), (7, _)] mixed (by kernel_rfl) (by kernel_rfl) [(3, 14), (8, 14), (11, 14), (3, 15)] (by kernel_rfl) (by (refine d_m [(0, _)] ?_; refine d_m [(123, _)] ?_; refine d_f [(124, _)] ?_; refine d_l [(125, _)] ?_; refine d_m [(7, _)] ?_; refine d_m [(0, _)] ?_; refine d_m [(128, _)] ?_; refine d_f [(129, _)] ?_; refine d_l [(130, _)] ?_; refine d_m [(7, _)] ?_; refine d_q [(131, _), (132, _)] ?_; refine d_l [(133, _)] ?_; refine d_f [(4, _)] ?_; refine d_l [(135, _)] ?_; refine d_q [(136, _)] ?_; refine d_q [(134, _), (137, _)] ?_; refine d_q [(126, _), (127, _)] ?_; refine d_s [(138, _), (139, _)] ?_; exact d_end z_mt z_sn)) z_su ?_; clear z_ex)
          ((repeat refine WpM.seq ?_); have z_ex := (And.intro @hc (And.intro @h4 True.intro)); refine WpM.regPE [] [(0, _), (2, _), (7, _), (153, _)] (by (refine s_f [(4, _)] ?_; refine s_l [(140, _)] ?_; refine s_q [(141, _)] ?_; refine s_m [(142, _)] ?_; refine s_wit ?_; intro z_g; (first | refine s_skip rfl z_g z_fp ?_ | (refine s_m [(0, _)] ?_ (hg := z_g))); clear z_g; refine s_wit ?_; intro z_g; (first | refine s_skip rfl z_g z_fp ?_ | (refine s_m [(144, _)] ?_ (hg := z_g))); clear z_g; refine s_wit ?_; intro z_g; (first | refine s_skip rfl z_g z_fp ?_ | (refine s_f [(145, _)] ?_ (hg := z_g))); clear z_g; refine s_wit ?_; intro z_g; (first | refine s_skip rfl z_g z_fp ?_ | (refine s_l [(146, _)] ?_ (hg := z_g))); clear z_g; refine s_wit ?_; intro z_g; (first | refine s_skip rfl z_g z_fp ?_ | (refine s_m [(7, _)] ?_ (hg := z_g))); clear z_g; refine s_wit ?_; intro z_g; (first | refine s_skip rfl z_g z_fp ?_ | (refine s_q [(147, _), (148, _)] ?_ (hg := z_g))); clear z_g; refine s_wit ?_; intro z_g; (first | refine s_skip rfl z_g z_fp ?_ | (refine s_l [(149, _)] ?_ (hg := z_g))); clear z_g; refine s_wit ?_; intro z_g; (first | refine s_skip rfl z_g z_fp ?_ | (refine s_m [(2, _)] ?_ (hg := z_g))); clear z_g; refine s_wit ?_; intro z_g; (first | refine s_skip rfl z_g z_fp ?_ | (refine s_q [(150, _), (151, _)] ?_ (hg := z_g))); clear z_g; refine s_m [(143, _), (152, _)] ?_; exact wpS_nil ⟨rfl, rfl⟩)) z_su ?_; clear z_ex)
          ((repeat refine WpM.seq ?_); refine WpM.condF (by (simp (maxSteps := 2000000) (disch := omega) [go_sem, -List.map_map, h4])) ?_)
          refine WpM.skip ?_
          ((repeat refine WpM.seq ?_); have z_ex := True.intro; refine WpM.regPE [] [(6, _)] (by (refine s_m [] ?_; exact wpS_nil ⟨rfl, rfl⟩)) z_su ?_; clear z_ex)
          refine WpM.ret ?_
          refine ⟨.inr rfl, Upd.done ⟨_, (by (simp (maxSteps := 2000000) (disch := omega) [go_sem, -List.map_map, resV, resVs, resV1])), fin _ (nx2 + 25) (by omega) (by show nx2 + 25 < nx2 + _; omega) (by (simp (maxSteps := 2000000) (disch := omega) [go_sem, -List.map_map, hnil])) (by (simp (maxSteps := 2000000) (disch := omega) [go_sem, -List.map_map, hnil])) fun m q e1 e2 e3 hk => by (simp (maxSteps := 2000000) (disch := omega) [go_sem, -List.map_map, hk])⟩⟩
        · obtain ⟨w1, w2, w3, w4, w5, w6, w7, w8⟩ := hwk hnil
          have grk : r k < nx := (hO1 _ w3).2
          have hr0 : n0 ≠ r k := fun e => on0 (e ▸ w3)
          have hrL : r k ≠ L := hq6 hnil
          refine WpM.loop (fun (j : Nat) fr S => j ≤ wl.length ∧ (∀ i (h : i < wl.length), i < j → wl[i] ≠ c.arg) ∧ fr = frOf [(0, .ptr L 0), (2, .d (.int .i64 who)), (4, .ptr n0 0), (7, .d (.int .i64 k)), (8, .d (.int .i64 j))] ∧ ∃ nx2, nx ≤ nx2 ∧ S = ⟨nx2, [], G⟩) (fun j => wl.length - j) 0 (St.Le.refl _) (frLe_frOf (by (simp (maxSteps := 2000000) (disch := omega) [go_sem, -List.map_map]))) ⟨by omega, by simp, rfl, _, ?_, rfl⟩ ?_
          · omega
          rintro j fr S2 ⟨hj, hall, rfl, nx2, hnx2, rfl⟩
          ((repeat refine WpM.seq ?_); have z_ex := (And.intro @k1 (And.intro @k8 (And.intro @w1 (And.intro @hkw (And.intro @hwn True.intro))))); refine WpM.regPE [] [(0, _), (2, _), (4, _), (7, _), (8, _), (107, _)] (by (refine s_m [(8, _)] ?_; refine s_m [(0, _)] ?_; refine s_m [(99, _)] ?_; refine s_f [(100, _)] ?_; refine s_l [(101, _)] ?_; refine s_m [(7, _)] ?_; refine s_q [(102, _), (103, _)] ?_; refine s_l [(104, _)] ?_; refine s_q [(105, _)] ?_; refine s_q [(98, _), (106, _)] ?_; exact wpS_nil ⟨rfl, rfl⟩)) z_su ?_; clear z_ex)
          by_cases hlt : j < wl.length
          · ((repeat refine WpM.seq ?_); refine WpM.condT (by (simp (maxSteps := 2000000) (disch := omega) [go_sem, -List.map_map, hlt])) ?_)
            refine WpM.skip ?_
            ((repeat refine WpM.seq ?_); refine WpM.block ?_)
            have hget : (wl.map fun t => V.d (.int .i64 t))[j]? = some (.d (.int .i64 wl[j])) := by simp [hlt]
            ((repeat refine WpM.seq ?_); have z_ex := (And.intro @k1 (And.intro @k8 (And.intro @w1 (And.intro @w2 (And.intro @hkw (And.intro @hwn (And.intro @hc (And.intro @hget (And.intro @hlt True.intro))))))))); refine WpM.drwPE [] [(0, _), (2, _), (4, _), (7, _), (8, _), (122, _)] mixed (by kernel_rfl) (by kernel_rfl) [] (by kernel_rfl) (by (refine d_m [(0, _)] ?_; refine d_m [(110, _)] ?_; refine d_f [(111, _)] ?_; refine d_l [(112, _)] ?_; refine d_m [(7, _)] ?_; refine d_q [(113, _), (114, _)] ?_; refine d_l [(115, _)] ?_; refine d_m [(8, _)] ?_; refine d_q [(116, _), (117, _)] ?_; refine d_l [(118, _)] ?_; refine d_f [(4, _)] ?_; refine d_l [(120, _)] ?_; refine d_q [(119, _), (121, _)] ?_; exact d_end z_mt z_sn)) z_su ?_; clear z_ex)
            by_cases he : wl[j] = c.arg
            · ((repeat refine WpM.seq ?_); refine WpM.condT (by (simp (maxSteps := 2000000) (disch := omega) [go_sem, -List.map_map, he])) ?_)
              rw [if_pos (by rw [← he]; exact List.getElem_mem _)]
              ((repeat refine WpM.seq ?_); have z_ex := True.intro; refine WpM.regPE [] [(6, _)] (by (refine s_m [] ?_; exact wpS_nil ⟨rfl, rfl⟩)) z_su ?_; clear z_ex)
              refine WpM.ret ?_
              refine ⟨.inr rfl, Upd.done ⟨_, (by (simp (maxSteps := 2000000) (disch := omega) [go_sem, -List.map_map, resV, resVs, resV1])), (by show n0 ≤ nx2 + _; omega), fun m k ho hk => ?_, rfl, by decide⟩⟩
              obtain ⟨h1, h2, h3⟩ := oldO m k ho hk
              (simp (maxSteps := 2000000) (disch := omega) [go_sem, -List.map_map, h2])
            · ((repeat refine WpM.seq ?_); refine WpM.condF (by (simp (maxSteps := 2000000) (disch := omega) [go_sem, -List.map_map, he])) ?_)
              refine WpM.skip ?_
              ((repeat refine WpM.seq ?_); have z_ex := (And.intro @wrap_id True.intro); refine WpM.regPE [] [(0, _), (2, _), (4, _), (7, _), (8, _)] (by (refine s_m [(8, _)] ?_; refine s_q [(108, _)] ?_; refine s_m [(109, _)] ?_; exact wpS_nil ⟨rfl, rfl⟩)) z_su ?_; clear z_ex)
              have hall' : ∀ i (h : i < wl.length), i < j + 1 → wl[i] ≠ c.arg := fun i h hi => by
                rcases Nat.lt_or_ge i j with h' | h'
                · exact hall i h h'
                · obtain rfl : i = j := by omega
                  exact he
              refine round_end (x' := j + 1) (St.Le.refl _) (frLe_frOf (by (simp (maxSteps := 2000000) (disch := omega) [go_sem, -List.map_map, wrap_id]))) ⟨by omega, hall', rfl, _, ?_, rfl⟩ (by omega)
              omega
          · ((repeat refine WpM.seq ?_); refine WpM.condF (by (simp (maxSteps := 2000000) (disch := omega) [go_sem, -List.map_map, hlt])) ?_)
            (refine WpM.exit ?_; (repeat (with_reducible (first | refine thenM_exit ?_ | refine blockM_eq ?_ | refine blockM_ne (by decide) ?_))))
            obtain rfl : j = wl.length := by omega
            have hnin : c.arg ∉ wl := fun h => by obtain ⟨i, hi, e⟩ := List.getElem_of_mem h; exact hall i hi hi e
            rw [if_neg hnin]
            have htk : (wl.map fun t => V.d (.int .i64 t)).take wl.length = wl.map fun t => V.d (.int .i64 t) := List.take_of_length_le (by simp)
            ((repeat refine WpM.seq ?_); have z_ex := (And.intro @k1 (And.intro @k8 (And.intro @w1 (And.intro @w2 (And.intro @hkw (And.intro @hwn (And.intro @hc (And.intro @htk True.intro)))))))); refine WpM.drwPE [] [(0, _), (2, _), (4, _), (7, _)] mixed (by kernel_rfl) (by kernel_rfl) [(3, 14), (8, 14), (11, 14), (3, 15)] (by kernel_rfl) (by (refine d_m [(0, _)] ?_; refine d_m [(123, _)] ?_; refine d_f [(124, _)] ?_; refine d_l [(125, _)] ?_; refine d_m [(7, _)] ?_; refine d_m [(0, _)] ?_; refine d_m [(128, _)] ?_; refine d_f [(129, _)] ?_; refine d_l [(130, _)] ?_; refine d_m [(7, _)] ?_; refine d_q [(131, _), (132, _)] ?_; refine d_l [(133, _)] ?_; refine d_f [(4, _)] ?_; refine d_l [(135, _)] ?_; refine d_q [(136, _)] ?_; refine d_q [(134, _), (137, _)] ?_; refine d_q [(126, _), (127, _)] ?_; refine d_s [(138, _), (139, _)] ?_; exact d_end z_mt z_sn)) z_su ?_; clear z_ex)
            ((repeat refine WpM.seq ?_); have z_ex := (And.intro @hc (And.intro @h4 True.intro)); refine WpM.regPE [] [(0, _), (2, _), (7, _), (153, _)] (by (refine s_f [(4, _)] ?_; refine s_l [(140, _)] ?_; refine s_q [(141, _)] ?_; refine s_m [(142, _)] ?_; refine s_wit ?_; intro z_g; (first | refine s_skip rfl z_g z_fp ?_ | (refine s_m [(0, _)] ?_ (hg := z_g))); clear z_g; refine s_wit ?_; intro z_g; (first | refine s_skip rfl z_g z_fp ?_ | (refine s_m [(144, _)] ?_ (hg := z_g))); clear z_g; refine s_wit ?_; intro z_g; (first | refine s_skip rfl z_g z_fp ?_ | (refine s_f [(145, _)] ?_ (hg := z_g))); clear z_g; refine s_wit ?_; intro z_g; (first | refine s_skip rfl z_g z_fp ?_ | (refine s_l [(146, _)] ?_ (hg := z_g))); clear z_g; refine s_wit ?_; intro z_g; (first | refine s_skip rfl z_g z_fp ?_ | (refine s_m [(7, _)] ?_ (hg := z_g))); clear z_g; refine s_wit ?_; intro z_g; (first | refine s_skip rfl z_g z_fp ?_ | (refine s_q [(147, _), (148, _)] ?_ (hg := z_g))); clear z_g; refine s_wit ?_; intro z_g; (first | refine s_skip rfl z_g z_fp ?_ | (refine s_l [(149, _)] ?_ (hg := z_g))); clear z_g; refine s_wit ?_; intro z_g; (first | refine s_skip rfl z_g z_fp ?_ | (refine s_m [(2, _)] ?_ (hg := z_g))); clear z_g; refine s_wit ?_; intro z_g; (first | refine s_skip rfl z_g z_fp ?_ | (refine s_q [(150, _), (151, _)] ?_ (hg := z_g))); clear z_g; refine s_m [(143, _), (152, _)] ?_; exact wpS_nil ⟨rfl, rfl⟩)) z_su ?_; clear z_ex)
            ((repeat refine WpM.seq ?_); refine WpM.condF (by (simp (maxSteps := 2000000) (disch := omega) [go_sem, -List.map_map, h4])) ?_)
            refine WpM.skip ?_
            ((repeat refine WpM.seq ?_); have z_ex := True.intro; refine WpM.regPE [] [(6, _)] (by (refine s_m [] ?_; exact wpS_nil ⟨rfl, rfl⟩)) z_su ?_; clear z_ex)
            refine WpM.ret ?_
            refine ⟨.inr rfl, Upd.done ⟨_, (by (simp (maxSteps := 2000000) (disch := omega) [go_sem, -List.map_map, resV, resVs, resV1])), fin _ (nx2 + 25) (by omega) (by show nx2 + 25 < nx2 + _; omega) (by (simp (maxSteps := 2000000) (disch := omega) [go_sem, -List.map_map])) (by (simp (maxSteps := 2000000) (disch := omega) [go_sem, -List.map_map])) fun m q e1 e2 e3 hk => by have e4 := e2 hnil; (simp (maxSteps := 2000000) (disch := omega) [go_sem, -List.map_map, hk])⟩⟩
    · rw [if_neg h23]
      have h2 : ¬ c.kind = 2 := fun h => h23 (.inl h)
      have h3 : ¬ c.kind = 3 := fun h => h23 (.inr h)
      ((repeat refine WpM.seq ?_); have z_ex := (And.intro @hc (And.intro @h2 (And.intro @h3 True.intro))); refine WpM.regPE [] [(0, _), (2, _), (4, _), (7, _), (97, _)] (by (refine s_f [(4, _)] ?_; refine s_l [(90, _)] ?_; refine s_q [(91, _)] ?_; refine s_m [(92, _)] ?_; refine s_wit ?_; intro z_g; (first | refine s_skip rfl z_g z_fp ?_ | (refine s_f [(4, _)] ?_ (hg := z_g))); clear z_g; refine s_wit ?_; intro z_g; (first | refine s_skip rfl z_g z_fp ?_ | (refine s_l [(94, _)] ?_ (hg := z_g))); clear z_g; refine s_wit ?_; intro z_g; (first | refine s_skip rfl z_g z_fp ?_ | (refine s_q [(95, _)] ?_ (hg := z_g))); clear z_g; refine s_m [(93, _), (96, _)] ?_; exact wpS_nil ⟨rfl, rfl⟩)) z_su ?_; clear z_ex)
      ((repeat refine WpM.seq ?_); refine WpM.condF (by (simp (maxSteps := 2000000) (disch := omega) [go_sem, -List.map_map, h3])) ?_)
      refine WpM.skip ?_
      by_cases h4 : c.kind = 4
      · rw [if_pos h4]
        have hlen8 := hw1.ilen k
        obtain ⟨l, hl⟩ : ∃ l, l = b1.incs.getD k [] := ⟨_, rfl⟩
        have hgl : b1.incs[k] = l := by rw [hl]; simp [hki]
        rw [← hl] at hlen8 ⊢
        obtain ⟨x0, hx0⟩ : ∃ x, x = lastD l := ⟨_, rfl⟩
        obtain ⟨len, hlen⟩ : ∃ n, n = l.length := ⟨_, rfl⟩
        have hg1 : (b1.incs.map fun l => V.d (.int .i64 (lastD l)))[k]? = some (.d (.int .i64 x0)) := by simp [hki, hgl, hx0]
        have hg2 : (b1.incs.map fun l => V.d (.int .i64 l.length))[k]? = some (.d (.int .i64 len)) := by simp [hki, hgl, hlen]
        obtain ⟨R1, hR1⟩ : ∃ R, R = b1.incs.map fun l => V.d (.int .i64 (lastD l)) := ⟨_, rfl⟩
        obtain ⟨R2, hR2⟩ : ∃ R, R = b1.incs.map fun l => V.d (.int .i64 l.length) := ⟨_, rfl⟩
        have hr1 : R1.length = b1.incs.length := by rw [hR1]; simp
        have hr2 : R2.length = b1.incs.length := by rw [hR2]; simp
        have hs2 : ∀ v : V, (R2.set k v)[k]? = some v := fun v => by simp [hr2, hki]
        rw [← hR1] at hg1 k11
        rw [← hR2] at hg2 k10
        by_cases hxw : x0 = who
        · have hinc : incNext l who = l := by
            rw [incNext]
            cases hcl : l.getLast? with
            | none => rw [hx0, lastD, hcl] at hxw; simp at hxw; omega
            | some y => rw [hx0, lastD, hcl] at hxw; simp at hxw; rw [if_pos (by rw [hxw])]
          rw [hinc, if_neg (by omega), hl, set_self]
          ((repeat refine WpM.seq ?_); have z_ex := (And.intro @hc (And.intro @h4 (And.intro @k1 (And.intro @k11 (And.intro @hg1 (And.intro @hki (And.intro @hr1 (And.intro @hxw True.intro)))))))); refine WpM.regPE [] [(0, _), (2, _), (7, _), (153, _)] (by (refine s_f [(4, _)] ?_; refine s_l [(140, _)] ?_; refine s_q [(141, _)] ?_; refine s_m [(142, _)] ?_; refine s_wit ?_; intro z_g; (first | refine s_skip rfl z_g z_fp ?_ | (refine s_m [(0, _)] ?_ (hg := z_g))); clear z_g; refine s_wit ?_; intro z_g; (first | refine s_skip rfl z_g z_fp ?_ | (refine s_m [(144, _)] ?_ (hg := z_g))); clear z_g; refine s_wit ?_; intro z_g; (first | refine s_skip rfl z_g z_fp ?_ | (refine s_f [(145, _)] ?_ (hg := z_g))); clear z_g; refine s_wit ?_; intro z_g; (first | refine s_skip rfl z_g z_fp ?_ | (refine s_l [(146, _)] ?_ (hg := z_g))); clear z_g; refine s_wit ?_; intro z_g; (first | refine s_skip rfl z_g z_fp ?_ | (refine s_m [(7, _)] ?_ (hg := z_g))); clear z_g; refine s_wit ?_; intro z_g; (first | refine s_skip rfl z_g z_fp ?_ | (refine s_q [(147, _), (148, _)] ?_ (hg := z_g))); clear z_g; refine s_wit ?_; intro z_g; (first | refine s_skip rfl z_g z_fp ?_ | (refine s_l [(149, _)] ?_ (hg := z_g))); clear z_g; refine s_wit ?_; intro z_g; (first | refine s_skip rfl z_g z_fp ?_ | (refine s_m [(2, _)] ?_ (hg := z_g))); clear z_g; refine s_wit ?_; intro z_g; (first | refine s_skip rfl z_g z_fp ?_ | (refine s_q [(150, _), (151, _)] ?_ (hg := z_g))); clear z_g; refine s_m [(143, _), (152, _)] ?_; exact wpS_nil ⟨rfl, rfl⟩)) z_su ?_; clear z_ex)
          ((repeat refine WpM.seq ?_); refine WpM.condF (by (simp (maxSteps := 2000000) (disch := omega) [go_sem, -List.map_map, hxw])) ?_)
          refine WpM.skip ?_
          ((repeat refine WpM.seq ?_); have z_ex := True.intro; refine WpM.regPE [] [(6, _)] (by (refine s_m [] ?_; exact wpS_nil ⟨rfl, rfl⟩)) z_su ?_; clear z_ex)
          refine WpM.ret ?_
          refine ⟨.inr rfl, Upd.done ⟨_, (by (simp (maxSteps := 2000000) (disch := omega) [go_sem, -List.map_map, resV, resVs, resV1])), (by show n0 ≤ nx + _; omega), fun m k ho hk => ?_, rfl, O1, fun m hm => ⟨(hO1 m hm).1.imp id (fun h => by omega), ?_⟩, BookAt.same (G := G) ⟨nk, nt, nw, ni, nl, ws, r, hN⟩ fun m k ho hk => ?_⟩⟩
          · obtain ⟨h1, h2, h3⟩ := oldO m k ho hk
            (simp (maxSteps := 2000000) (disch := omega) [go_sem, -List.map_map, h2])
          · have := (hO1 m hm).2; show m < nx + _; omega
          · have h2 := (hO1 _ ho).2
            (simp (maxSteps := 2000000) (disch := omega) [go_sem, -List.map_map, hk])
        · have hinc : incNext l who = b1.incs.getD k [] ++ [who] := by
            rw [incNext, ← hl, if_neg]
            intro hcl
            rw [hx0, lastD, hcl] at hxw
            exact hxw rfl
          have hill : (b1.incs.getD k [] ++ [who]).length = len + 1 := by rw [← hl]; simp [hlen]
          rw [hinc, hill]
          ((repeat refine WpM.seq ?_); have z_ex := (And.intro @hc (And.intro @h4 (And.intro @k1 (And.intro @k11 (And.intro @hg1 (And.intro @hki (And.intro @hr1 (And.intro @hxw True.intro)))))))); refine WpM.regPE [] [(0, _), (2, _), (7, _), (153, _)] (by (refine s_f [(4, _)] ?_; refine s_l [(140, _)] ?_; refine s_q [(141, _)] ?_; refine s_m [(142, _)] ?_; refine s_wit ?_; intro z_g; (first | refine s_skip rfl z_g z_fp ?_ | (refine s_m [(0, _)] ?_ (hg := z_g))); clear z_g; refine s_wit ?_; intro z_g; (first | refine s_skip rfl z_g z_fp ?_ | (refine s_m [(144, _)] ?_ (hg := z_g))); clear z_g; refine s_wit ?_; intro z_g; (first | refine s_skip rfl z_g z_fp ?_ | (refine s_f [(145, _)] ?_ (hg := z_g))); clear z_g; refine s_wit ?_; intro z_g; (first | refine s_skip rfl z_g z_fp ?_ | (refine s_l [(146, _)] ?_ (hg := z_g))); clear z_g; refine s_wit ?_; intro z_g; (first | refine s_skip rfl z_g z_fp ?_ | (refine s_m [(7, _)] ?_ (hg := z_g))); clear z_g; refine s_wit ?_; intro z_g; (first | refine s_skip rfl z_g z_fp ?_ | (refine s_q [(147, _), (148, _)] ?_ (hg := z_g))); clear z_g; refine s_wit ?_; intro z_g; (first | refine s_skip rfl z_g z_fp ?_ | (refine s_l [(149, _)] ?_ (hg := z_g))); clear z_g; refine s_wit ?_; intro z_g; (first | refine s_skip rfl z_g z_fp ?_ | (refine s_m [(2, _)] ?_ (hg := z_g))); clear z_g; refine s_wit ?_; intro z_g; (first | refine s_skip rfl z_g z_fp ?_ | (refine s_q [(150, _), (151, _)] ?_ (hg := z_g))); clear z_g; refine s_m [(143, _), (152, _)] ?_; exact wpS_nil ⟨rfl, rfl⟩)) z_su ?_; clear z_ex)
          ((repeat refine WpM.seq ?_); refine WpM.condT (by (simp (maxSteps := 2000000) (disch := omega) [go_sem, -List.map_map, hxw])) ?_)
          ((repeat refine WpM.seq ?_); have z_ex := (And.intro @k1 (And.intro @k11 (And.intro @hki (And.intro @hr1 (And.intro @hg1 True.intro))))); refine WpM.regPE [] [(0, _), (7, _)] (by (refine s_m [(0, _)] ?_; refine s_m [(154, _)] ?_; refine s_f [(155, _)] ?_; refine s_l [(156, _)] ?_; refine s_m [(7, _)] ?_; refine s_m [(2, _)] ?_; refine s_q [(157, _), (158, _)] ?_; refine s_s [(159, _), (160, _)] ?_; exact wpS_nil ⟨rfl, rfl⟩)) z_su ?_; clear z_ex)
          ((repeat refine WpM.seq ?_); have z_ex := (And.intro @k1 (And.intro @k10 (And.intro @hki (And.intro @hr2 (And.intro @hg2 (And.intro @wrap_id True.intro)))))); refine WpM.regPE [] [(0, _), (7, _)] (by (refine s_m [(0, _)] ?_; refine s_m [(161, _)] ?_; refine s_f [(162, _)] ?_; refine s_l [(163, _)] ?_; refine s_m [(7, _)] ?_; refine s_q [(164, _), (165, _)] ?_; refine s_l [(166, _)] ?_; refine s_q [(167, _)] ?_; refine s_q [(164, _), (165, _)] ?_; refine s_s [(168, _), (169, _)] ?_; exact wpS_nil ⟨rfl, rfl⟩)) z_su ?_; clear z_ex)
          ((repeat refine WpM.seq ?_); have z_ex := (And.intro @k1 (And.intro @k10 (And.intro @hki (And.intro @hr2 (And.intro @hs2 True.intro))))); refine WpM.regPE [] [(177, _)] (by (refine s_m [(0, _)] ?_; refine s_m [(170, _)] ?_; refine s_f [(171, _)] ?_; refine s_l [(172, _)] ?_; refine s_m [(7, _)] ?_; refine s_q [(173, _), (174, _)] ?_; refine s_l [(175, _)] ?_; refine s_q [(176, _)] ?_; exact wpS_nil ⟨rfl, rfl⟩)) z_su ?_; clear z_ex)
          by_cases h8 : 8 < len + 1
          · rw [if_pos h8]
            have h8' : (8 : Int) < len + 1 := by omega
            ((repeat refine WpM.seq ?_); refine WpM.condT (by (simp (maxSteps := 2000000) (disch := omega) [go_sem, -List.map_map, h8'])) ?_)
            ((repeat refine WpM.seq ?_); have z_ex := True.intro; refine WpM.regPE [] [(6, _)] (by (refine s_m [] ?_; exact wpS_nil ⟨rfl, rfl⟩)) z_su ?_; clear z_ex)
            refine WpM.ret ?_
            refine ⟨.inr rfl, Upd.done ⟨_, (by (simp (maxSteps := 2000000) (disch := omega) [go_sem, -List.map_map, resV, resVs, resV1])), (by show n0 ≤ nx + _; omega), fun m k ho hk => ?_, rfl, by decide⟩⟩
            have h5 := onO _ hN.oi m k ho hk
            have h6 := onO _ hN.ol m k ho hk
            obtain ⟨h1, h2, h3⟩ := oldO m k ho hk
            (simp (maxSteps := 2000000) (disch := omega) [go_sem, -List.map_map, h2])
          · rw [if_neg h8]
            have h8' : (len : Int) + 1 ≤ 8 := by omega
            ((repeat refine WpM.seq ?_); refine WpM.condF (by (simp (maxSteps := 2000000) (disch := omega) [go_sem, -List.map_map, h8'])) ?_)
            refine WpM.skip ?_
            ((repeat refine WpM.seq ?_); have z_ex := True.intro; refine WpM.regPE [] [(6, _)] (by (refine s_m [] ?_; exact wpS_nil ⟨rfl, rfl⟩)) z_su ?_; clear z_ex)
            refine WpM.ret ?_
            refine ⟨.inr rfl, Upd.done ⟨_, (by (simp (maxSteps := 2000000) (disch := omega) [go_sem, -List.map_map, resV, resVs, resV1])), (by show n0 ≤ nx + _; omega), fun m k ho hk => ?_, rfl, O1, fun m hm => ⟨(hO1 m hm).1.imp id (fun h => by omega), ?_⟩, hN.inc hw1 (by rw [← hl, ← hR2, ← hlen]; (simp (maxSteps := 2000000) (disch := omega) [go_sem, -List.map_map])) (by rw [← hR1]; (simp (maxSteps := 2000000) (disch := omega) [go_sem, -List.map_map])) fun m q h5 h6 ho hk => ?_⟩⟩
            · have h5 := onO _ hN.oi m k ho hk
              have h6 := onO _ hN.ol m k ho hk
              obtain ⟨h1, h2, h3⟩ := oldO m k ho hk
              (simp (maxSteps := 2000000) (disch := omega) [go_sem, -List.map_map, h2])
            · have := (hO1 m hm).2; show m < nx + _; omega
            · have h2 := (hO1 _ ho).2
              (simp (maxSteps := 2000000) (disch := omega) [go_sem, -List.map_map, hk])
      · rw [if_neg h4]
        ((repeat refine WpM.seq ?_); have z_ex := (And.intro @hc (And.intro @h4 True.intro)); refine WpM.regPE [] [(0, _), (2, _), (7, _), (153, _)] (by (refine s_f [(4, _)] ?_; refine s_l [(140, _)] ?_; refine s_q [(141, _)] ?_; refine s_m [(142, _)] ?_; refine s_wit ?_; intro z_g; (first | refine s_skip rfl z_g z_fp ?_ | (refine s_m [(0, _)] ?_ (hg := z_g))); clear z_g; refine s_wit ?_; intro z_g; (first | refine s_skip rfl z_g z_fp ?_ | (refine s_m [(144, _)] ?_ (hg := z_g))); clear z_g; refine s_wit ?_; intro z_g; (first | refine s_skip rfl z_g z_fp ?_ | (refine s_f [(145, _)] ?_ (hg := z_g))); clear z_g; refine s_wit ?_; intro z_g; (first | refine s_skip rfl z_g z_fp ?_ | (refine s_l [(146, _)] ?_ (hg := z_g))); clear z_g; refine s_wit ?_; intro z_g; (first | refine s_skip rfl z_g z_fp ?_ | (refine s_m [(7, _)] ?_ (hg := z_g))); clear z_g; refine s_wit ?_; intro z_g; (first | refine s_skip rfl z_g z_fp ?_ | (refine s_q [(147, _), (148, _)] ?_ (hg := z_g))); clear z_g; refine s_wit ?_; intro z_g; (first | refine s_skip rfl z_g z_fp ?_ | (refine s_l [(149, _)] ?_ (hg := z_g))); clear z_g; refine s_wit ?_; intro z_g; (first | refine s_skip rfl z_g z_fp ?_ | (refine s_m [(2, _)] ?_ (hg := z_g))); clear z_g; refine s_wit ?_; intro z_g; (first | refine s_skip rfl z_g z_fp ?_ | (refine s_q [(150, _), (151, _)] ?_ (hg := z_g))); clear z_g; refine s_m [(143, _), (152, _)] ?_; exact wpS_nil ⟨rfl, rfl⟩)) z_su ?_; clear z_ex)
        ((repeat refine WpM.seq ?_); refine WpM.condF (by (simp (maxSteps := 2000000) (disch := omega) [go_sem, -List.map_map, h4])) ?_)
        refine WpM.skip ?_
        ((repeat refine WpM.seq ?_); have z_ex := True.intro; refine WpM.regPE [] [(6, _)] (by (refine s_m [] ?_; exact wpS_nil ⟨rfl, rfl⟩)) z_su ?_; clear z_ex)
        refine WpM.ret ?_
        refine ⟨.inr rfl, Upd.done ⟨_, (by (simp (maxSteps := 2000000) (disch := omega) [go_sem, -List.map_map, resV, resVs, resV1])), (by show n0 ≤ nx + _; omega), fun m k ho hk => ?_, rfl, O1, fun m hm => ⟨(hO1 m hm).1.imp id (fun h => by omega), ?_⟩, BookAt.same (G := G) ⟨nk, nt, nw, ni, nl, ws, r, hN⟩ fun m k ho hk => ?_⟩⟩
        · obtain ⟨h1, h2, h3⟩ := oldO m k ho hk
          (simp (maxSteps := 2000000) (disch := omega) [go_sem, -List.map_map, h2])
        · have := (hO1 m hm).2; show m < nx + _; omega
        · have h2 := (hO1 _ ho).2
          (simp (maxSteps := 2000000) (disch := omega) [go_sem, -List.map_map, hk])
  · ((repeat refine WpM.seq ?_); refine WpM.condT (by (simp (maxSteps := 2000000) (disch := omega) [go_sem, -List.map_map, hty])) ?_)
    have hput : putB b1 k c who = .error 50 := by rw [putB, ← hty0, if_pos hty]
    rw [hput]
    ((repeat refine WpM.seq ?_); have z_ex := True.intro; refine WpM.regPE [] [(6, _)] (by (refine s_m [] ?_; exact wpS_nil ⟨rfl, rfl⟩)) z_su ?_; clear z_ex)
    refine WpM.ret ?_
    refine ⟨.inr rfl, Upd.done ⟨_, (by (simp (maxSteps := 2000000) (disch := omega) [go_sem, -List.map_map, resV, resVs, resV1])), (by show n0 ≤ nx + _; omega), fun m k ho hk => ?_, rfl, by decide⟩⟩
    obtain ⟨h1, h2, h3⟩ := oldO m k ho hk
    (simp (maxSteps := 2000000) (disch := omega) [go_sem, -List.map_map, h2])
end Go.Proofs.Ytjjmedgibcffhaa
