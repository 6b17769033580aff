/- assizelaw17.SolveFewer, walked. -/
import Derived.Test.YtafeehlpmdligaaROp
import Derived.Test.YtafeehlpmdligaaRSvR
import Derived.Test.YtafeehlpmdligaaRCopyO
import Derived.Test.YtafeehlpmdligaaRVe
namespace Go.Proofs.Ytafeehlpmdligaa
open Go.RowKit M
set_option linter.unusedSimpArgs false
set_option linter.unusedVariables false
theorem few_ok {n : Int} {cs : List (List Int)} (h : fewP n cs = true) : mass cs ≤ 600 ∧ n ≤ 40 := by
  unfold fewP at h
  exact of_decide_eq_true h
theorem mass_len (cs : List (List Int)) : cs.length ≤ mass cs := by
  induction cs with
  | nil => simp [mass]
  | cons c r ih => simp only [mass, List.length_cons]; omega
theorem mass_mem {cs : List (List Int)} {c : List Int} (h : c ∈ cs) : c.length < mass cs := by
  induction cs with
  | nil => simp at h
  | cons d r ih =>
    simp only [mass]
    rcases List.mem_cons.1 h with rfl | h
    · omega
    · have := ih h; omega
theorem run_err {n : Int} {cs : List (List Int)} {b : Int} (h : (runF n cs b).2 ≠ 0) : (runF n cs b).1 = zeroA := by
  unfold runF at h ⊢
  split
  · rfl
  · split
    · rfl
    · rename_i h1 h2
      rw [if_neg h1, if_neg h2] at h
      exact absurd rfl h
theorem run_ok {n : Int} {cs : List (List Int)} {b : Int} (h : (runF n cs b).2 = 0) : ∃ n' b' : Nat, n = n' ∧ b = b' ∧ checkF n' cs = 0 ∧ (runF n cs b).1 = searchF n' cs b' ∧ RightA n' cs b' (searchF n' cs b') ∧ litsOk n' cs := by
  unfold runF at h ⊢
  split at h
  · rename_i h1
    exact absurd h h1
  · split at h
    · simp at h
    · rename_i h1 h2
      rw [if_neg h1, if_neg h2]
      have h1 : checkF n cs = 0 := Decidable.not_not.1 h1
      obtain ⟨c1, c2, _, _⟩ := check_ok h1
      obtain ⟨n', rfl⟩ : ∃ n' : Nat, n = n' := ⟨n.toNat, by omega⟩
      obtain ⟨b', rfl⟩ : ∃ b' : Nat, b = b' := ⟨b.toNat, by omega⟩
      have hl := ok_lits h1
      exact ⟨n', b', rfl, rfl, h1, rfl, (search_right hl b').2, hl⟩
theorem fewer_law {n : Int} {cs : List (List Int)} {l : List Int} {b : Int} (h1 : (runF n cs b).2 = 0) (h2 : (runF n (cs ++ [l]) b).2 = 0) : (runF n cs b).1.code ≠ 1 ∨ (runF n (cs ++ [l]) b).1.code ≠ 2 := by
  obtain ⟨n1, b1, rfl, rfl, _, e1, r1, l1⟩ := run_ok h1
  obtain ⟨n2, b2, hn, hb, _, e2, r2, l2⟩ := run_ok h2
  rw [e1, e2]
  by_cases hc : (searchF n1 cs b1).code = 1
  · right
    intro hc2
    obtain ⟨_, m1, _⟩ := r2.two hc2
    exact refuted_none r1 hc l1 fun c hc => List.all_eq_true.1 m1 c (List.mem_append_left _ hc)
  · exact .inl hc
set_option maxHeartbeats 8000000 in
theorem law8 (n : Int) (cs : List (List Int)) (l : List Int) (hn : -9223372036854775808 ≤ n ∧ n ≤ 9223372036854775807) (hcl : cs.length ≤ 1048576) (hcs : ∀ c ∈ cs, c.length ≤ 1048576) (hll : l.length ≤ 1048576) :
    PureC Try.prog 8 [.d (cnf n cs), .d (ints l)] (.d (.bool true)) := by
  intro S
  refine CallM.pure' rfl (CallM.start (n := 61) Try.func8 rfl rfl (by simp) (by simp only [argL, Nat.reduceAdd] <;> rfl) ?_)
  intro hH
  obtain ⟨H, hHe⟩ : ∃ H, H = S.get := ⟨_, rfl⟩
  obtain ⟨n0, hne⟩ : ∃ n0, n0 = S.next := ⟨_, rfl⟩
  rw [← hHe, ← hne] at hH ⊢
  have keep0 : ∀ nx, ∀ m k, H m = some k → St.get ⟨nx, [(n0, some (.box [.d (.int .i64 n), .d (cls cs)]))], H⟩ m = some k := by
    intro nx m k hm
    have := hH _ _ hm
    (simp (maxSteps := 2000000) (disch := omega) [go_sem, -List.map_map, hm])
  ((repeat refine WpM.seq ?_); have z_ex := (And.intro @cnf.eq_1 True.intro); refine WpM.regPE [] [(1, _), (2, _)] (by (refine s_o [(0, _)] rfl rfl rfl z_su rfl q_box z_fp z_ss ?_; refine s_o [] rfl rfl rfl z_su rfl q_move z_fp z_ss ?_; exact wpS_nil ⟨rfl, rfl⟩)) z_su ?_; clear z_ex)
  ((repeat refine WpM.seq ?_); have z_ex := True.intro; refine WpM.regPE [] [(1, _), (2, _), (11, _)] (by (refine s_pure (callOf_eq rfl rfl rfl mlk_nil) (alive29) rfl rfl z_ip z_fp ?_; refine s_o [(10, _)] rfl rfl rfl z_su rfl q_unOp z_fp z_ss ?_; exact wpS_nil ⟨rfl, rfl⟩)) z_su ?_; clear z_ex)
  ((repeat refine WpM.seq ?_); refine WpM.condF (by (simp (maxSteps := 2000000) (disch := omega) [go_sem, -List.map_map])) ?_)
  refine WpM.skip ?_
  have hL := few30 n cs hcl hcs
  cases hl : fewP n cs with
  | false =>
    rw [hl] at hL
    ((repeat refine WpM.seq ?_); have z_ex := (And.intro @cnf.eq_1 True.intro); refine WpM.regPE [] [(1, _), (2, _), (19, _)] (by (refine s_o [(2, _)] rfl rfl rfl z_su rfl q_load z_fp z_ss ?_; refine s_pure (callOf_eq rfl rfl rfl (mlk_tmp z_lk mlk_nil)) (hL) rfl rfl z_ip z_fp ?_; refine s_o [(13, _)] rfl rfl rfl z_su rfl q_unOp z_fp z_ss ?_; refine s_o [(14, _)] rfl rfl rfl z_su rfl q_move z_fp z_ss ?_; refine s_wit ?_; intro z_g; (first | refine s_skip rfl z_g z_fp ?_ | (refine s_o [(1, _)] rfl z_g rfl z_su rfl q_move z_fp z_ss ?_)); clear z_g; refine s_wit ?_; intro z_g; (first | refine s_skip rfl z_g z_fp ?_ | (refine s_o [(16, _)] rfl z_g rfl z_su rfl q_full z_fp z_ss ?_)); clear z_g; refine s_wit ?_; intro z_g; (first | refine s_skip rfl z_g z_fp ?_ | (refine s_o [(17, _)] rfl z_g rfl z_su rfl q_full z_fp z_ss ?_)); clear z_g; refine s_o [(15, _), (18, _)] rfl rfl rfl z_su rfl q_move z_fp z_ss ?_; exact wpS_nil ⟨rfl, rfl⟩)) z_su ?_; clear z_ex)
    ((repeat refine WpM.seq ?_); refine WpM.condT (by (simp (maxSteps := 2000000) (disch := omega) [go_sem, -List.map_map])) ?_)
    ((repeat refine WpM.seq ?_); have z_ex := True.intro; refine WpM.regPE [] [(4, _)] (by (refine s_o [] rfl rfl rfl z_su rfl q_move z_fp z_ss ?_; exact wpS_nil ⟨rfl, rfl⟩)) z_su ?_; clear z_ex)
    refine WpM.ret ?_
    exact ⟨.inr rfl, Upd.done ⟨.d (.bool true), (by (simp (maxSteps := 2000000) (disch := omega) [go_sem, -List.map_map, resV, resVs, resV1])), rfl, fun m k hm hk => keep0 _ m k hk⟩⟩
  | true =>
    rw [hl] at hL
    obtain ⟨hm, hn40⟩ := few_ok hl
    by_cases h60 : (60 : Int) < l.length
    · ((repeat refine WpM.seq ?_); have z_ex := (And.intro @cnf.eq_1 (And.intro @h60 (And.intro @ints.eq_1 True.intro))); refine WpM.regPE [] [(1, _), (2, _), (19, _)] (by (refine s_o [(2, _)] rfl rfl rfl z_su rfl q_load z_fp z_ss ?_; refine s_pure (callOf_eq rfl rfl rfl (mlk_tmp z_lk mlk_nil)) (hL) rfl rfl z_ip z_fp ?_; refine s_o [(13, _)] rfl rfl rfl z_su rfl q_unOp z_fp z_ss ?_; refine s_o [(14, _)] rfl rfl rfl z_su rfl q_move z_fp z_ss ?_; refine s_wit ?_; intro z_g; (first | refine s_skip rfl z_g z_fp ?_ | (refine s_o [(1, _)] rfl z_g rfl z_su rfl q_move z_fp z_ss ?_)); clear z_g; refine s_wit ?_; intro z_g; (first | refine s_skip rfl z_g z_fp ?_ | (refine s_o [(16, _)] rfl z_g rfl z_su rfl q_full z_fp z_ss ?_)); clear z_g; refine s_wit ?_; intro z_g; (first | refine s_skip rfl z_g z_fp ?_ | (refine s_o [(17, _)] rfl z_g rfl z_su rfl q_full z_fp z_ss ?_)); clear z_g; refine s_o [(15, _), (18, _)] rfl rfl rfl z_su rfl q_move z_fp z_ss ?_; exact wpS_nil ⟨rfl, rfl⟩)) z_su ?_; clear z_ex)
      ((repeat refine WpM.seq ?_); refine WpM.condT (by (simp (maxSteps := 2000000) (disch := omega) [go_sem, -List.map_map])) ?_)
      ((repeat refine WpM.seq ?_); have z_ex := True.intro; refine WpM.regPE [] [(4, _)] (by (refine s_o [] rfl rfl rfl z_su rfl q_move z_fp z_ss ?_; exact wpS_nil ⟨rfl, rfl⟩)) z_su ?_; clear z_ex)
      refine WpM.ret ?_
      exact ⟨.inr rfl, Upd.done ⟨.d (.bool true), (by (simp (maxSteps := 2000000) (disch := omega) [go_sem, -List.map_map, resV, resVs, resV1])), rfl, fun m k hm hk => keep0 _ m k hk⟩⟩
    · ((repeat refine WpM.seq ?_); have z_ex := (And.intro @cnf.eq_1 (And.intro @h60 (And.intro @ints.eq_1 True.intro))); refine WpM.regPE [] [(1, _), (2, _), (19, _)] (by (refine s_o [(2, _)] rfl rfl rfl z_su rfl q_load z_fp z_ss ?_; refine s_pure (callOf_eq rfl rfl rfl (mlk_tmp z_lk mlk_nil)) (hL) rfl rfl z_ip z_fp ?_; refine s_o [(13, _)] rfl rfl rfl z_su rfl q_unOp z_fp z_ss ?_; refine s_o [(14, _)] rfl rfl rfl z_su rfl q_move z_fp z_ss ?_; refine s_wit ?_; intro z_g; (first | refine s_skip rfl z_g z_fp ?_ | (refine s_o [(1, _)] rfl z_g rfl z_su rfl q_move z_fp z_ss ?_)); clear z_g; refine s_wit ?_; intro z_g; (first | refine s_skip rfl z_g z_fp ?_ | (refine s_o [(16, _)] rfl z_g rfl z_su rfl q_full z_fp z_ss ?_)); clear z_g; refine s_wit ?_; intro z_g; (first | refine s_skip rfl z_g z_fp ?_ | (refine s_o [(17, _)] rfl z_g rfl z_su rfl q_full z_fp z_ss ?_)); clear z_g; refine s_o [(15, _), (18, _)] rfl rfl rfl z_su rfl q_move z_fp z_ss ?_; exact wpS_nil ⟨rfl, rfl⟩)) z_su ?_; clear z_ex)
      ((repeat refine WpM.seq ?_); refine WpM.condF (by (simp (maxSteps := 2000000) (disch := omega) [go_sem, -List.map_map, h60])) ?_)
      refine WpM.skip ?_
      have hml := mass_len cs
      have c1 := run31f n cs 200 hn (by decide) (by omega) (by omega) (fun c hc => by have := mass_mem hc; omega)
      have c2 := run31f n (cs ++ [l]) 200 hn (by decide) (by simp; omega) (by rw [mass_append]; simp [mass]; omega) (fun c hc => by
        rcases List.mem_append.1 hc with hc | hc
        · have := mass_mem hc; omega
        · simp at hc; subst hc; omega)
      have hlaw := @fewer_law n cs l 200
      have her := @run_err n cs 200
      generalize runF n cs 200 = r1 at c1 hlaw her
      generalize runF n (cs ++ [l]) 200 = r2 at c2 hlaw
      obtain ⟨a1, e1⟩ := r1
      obtain ⟨a2, e2⟩ := r2
      simp only at c1 c2 hlaw her
      have keep1 := keep0 (n0 + 4)
      ((repeat refine WpM.seq ?_); have z_ex := (And.intro @cnf.eq_1 True.intro); refine WpM.regP [] ?_; intro K hK; refine s_o [(2, _)] rfl rfl rfl z_su rfl q_load z_fp z_ss ?_; refine s_call (callOf_eq rfl rfl rfl (mlk_tmp z_lk mlk_nil)) (copy16o n cs hcl hcs _) rfl rfl z_ip ?_; rintro _ z_S ⟨nm, h1, rfl, h2, h3, h4⟩; obtain ⟨zn, zl, zH⟩ := z_S; refine s_put z_fp ?_; refine s_o [] rfl rfl rfl z_su rfl q_alloc z_fp z_ss ?_; refine s_o [(5, _), (21, _)] rfl rfl rfl z_su rfl q_store z_fp z_ss ?_; refine s_endE [(1, _), (2, _), (5, _)] hK z_su ?_; clear hK K; clear z_ex)
      have h1 : n0 + 11 ≤ nm := h1
      have k0 : lget zl zH n0 = some (.box [.d (.int .i64 n), .d (cls cs)]) := h3 _ _ (by (simp (maxSteps := 2000000) (disch := omega) [go_sem, -List.map_map]))
      have k1 : lget zl zH nm = some (.row 1 (cs.map fun c => .d (ints c))) := h2
      have h4 : ∀ m k, lget zl zH m = some k → m < zn := h4
      have b0 := h4 _ _ k0
      have b1 := h4 _ _ k1
      have kH : ∀ m k, H m = some k → lget zl zH m = some k ∧ m < zn ∧ m < n0 := fun m k hm => by
        have h5 := hH _ _ hm
        have h6 : lget zl zH m = some k := h3 _ _ (by (simp (maxSteps := 2000000) (disch := omega) [go_sem, -List.map_map, hm]))
        exact ⟨h6, h4 _ _ h6, h5⟩
      refine WpM.norm ?_
      intro nn G hnn hG hk
      have hnn : nn = zn + 2 := hnn
      have g0 : G n0 = some (.box [.d (.int .i64 n), .d (cls cs)]) := by rw [hG]; (simp (maxSteps := 2000000) (disch := omega) [go_sem, -List.map_map, k0])
      have g1 : G nm = some (.row 1 (cs.map fun c => .d (ints c))) := by rw [hG]; (simp (maxSteps := 2000000) (disch := omega) [go_sem, -List.map_map, k1])
      have g2 : G zn = some (.box [.d (.int .i64 n), .ms nm 1 0 cs.length]) := by rw [hG]; (simp (maxSteps := 2000000) (disch := omega) [go_sem, -List.map_map])
      have gH : ∀ m k, H m = some k → G m = some k ∧ m < zn ∧ m < n0 := fun m k hm => by
        obtain ⟨h6, h7, h8⟩ := kH m k hm
        refine ⟨?_, h7, h8⟩
        rw [hG]; (simp (maxSteps := 2000000) (disch := omega) [go_sem, -List.map_map, h6])
      clear hG kH k0 k1 h2 h3 h4 keep1
      have hzn : zn ≠ nm := by omega
      have hnz : n0 < zn := by omega
      obtain ⟨bx, hbx⟩ : ∃ bx, bx = zn := ⟨_, rfl⟩
      have u1 : bx < nn := by omega
      have u2 : nm < nn := by omega
      have u3 : n0 < bx := by omega
      have u4 : bx ≠ nm := by omega
      have u5 : n0 < nm := by omega
      rw [← hbx] at g2 gH ⊢
      clear hbx hzn hnz b0 b1 hnn
      have htk : (cs.map fun c => V.d (ints c)).take cs.length = cs.map fun c => V.d (ints c) := List.take_of_length_le (by simp)
      ((repeat refine WpM.seq ?_); have z_ex := (And.intro @ints.eq_1 (And.intro @g2 (And.intro @g1 (And.intro @htk (And.intro @hcl True.intro))))); refine WpM.drwPE [26] [(2, _), (5, _)] mixed (by kernel_rfl) (by kernel_rfl) [(1, 2), (1, 4), (1, 5)] (by kernel_rfl) (by (refine d_o [(5, _)] rfl rfl rfl z_su rfl q_fieldAddr z_fp z_ss rfl ?_; refine d_o [(22, _)] rfl rfl rfl z_su rfl q_load z_fp z_ss rfl ?_; refine d_o [] rfl rfl rfl z_su rfl q_full z_fp z_ss rfl ?_; refine d_o [(1, _)] rfl rfl rfl z_su rfl q_move z_fp z_ss rfl ?_; refine d_o [(24, _), (25, _)] rfl rfl rfl z_su rfl q_full z_fp z_ss rfl ?_; refine d_o [(26, _)] rfl rfl rfl z_su rfl q_full z_fp z_ss rfl ?_; refine d_o [(23, _), (27, _)] rfl rfl rfl z_su rfl q_full z_fp z_ss rfl ?_; refine d_o [(5, _)] rfl rfl rfl z_su rfl q_fieldAddr z_fp z_ss rfl ?_; refine d_o [(28, _), (29, _)] rfl rfl rfl z_su rfl q_store z_fp z_ss rfl ?_; exact d_end z_mt z_sn)) z_su ?_; clear z_ex)
      have htk2 : List.take cs.length (List.map (fun c => V.d (D.sl (List.map (D.int .i64) c))) cs) ++ [V.d (D.sl (List.map (D.int .i64) l))] = ((cs ++ [l]).map ints).map V.d := by
        rw [List.take_of_length_le (by simp), List.map_append, List.map_append, List.map_map]; rfl
      rw [htk2]
      refine Upd.wp (Upd.freezeIn bx 1 (nm := nn + 6) (sz := 1) (o := 0) (m := cs.length + 1) (cs := [.d (.int .i64 n), .ms (nn + 6) 1 0 (cs.length + 1)]) (xs := ((cs ++ [l]).map ints).map V.d) ((cs ++ [l]).map ints) (by (simp (maxSteps := 2000000) (disch := omega) [go_sem, -List.map_map])) rfl (by (simp (maxSteps := 2000000) (disch := omega) [go_sem, -List.map_map])) (by rw [List.drop_zero, List.take_of_length_le (by simp)]) (by simp) (Upd.done ?_))
      refine WpM.norm ?_
      intro nx2 G2 hnx2 hG2 hk2
      have q0 : G2 n0 = some (.box [.d (.int .i64 n), .d (cls cs)]) := by rw [hG2]; (simp (maxSteps := 2000000) (disch := omega) [go_sem, -List.map_map, g0])
      have q2 : G2 bx = some (.box [.d (.int .i64 n), .d (cls (cs ++ [l]))]) := by rw [hG2]; (simp (maxSteps := 2000000) (disch := omega) [go_sem, -List.map_map, List.set, cls])
      have qH : ∀ m k, H m = some k → G2 m = some k := fun m k hm => by
        obtain ⟨h6, h7, h8⟩ := gH m k hm
        have h9 : m ≠ nm := by omega
        rw [hG2]; (simp (maxSteps := 2000000) (disch := omega) [go_sem, -List.map_map, h6, h9])
      have hlt : ∀ m k, H m = some k → m < nx2 := fun m k hm => hk2 m k (qH m k hm)
      have hb2 : bx < nx2 := hk2 _ _ q2
      have hb0 : n0 < nx2 := hk2 _ _ q0
      clear hG2 hk2 hnx2
      have fin : ∀ nx l (hl : ∀ m k, H m = some k → lget l G2 m = some k) (q : Bool), q = true → (Exit.ret = Exit.normal ∨ Exit.ret = Exit.ret) ∧ Upd 61 (frOf [(4, .d (.bool q))]) ⟨nx, l, G2⟩ fun fr S' => ∃ r, resV Try.prog fr S' Try.f8.results.toList = some r ∧ r = .d (.bool true) ∧ ∀ m k, m < n0 → H m = some k → S'.get m = some k := by
        rintro nx l hl q rfl
        exact ⟨.inr rfl, Upd.done ⟨.d (.bool true), (by (simp (maxSteps := 2000000) (disch := omega) [go_sem, -List.map_map, resV, resVs, resV1])), rfl, fun m k _ hk => hl m k hk⟩⟩
      ((repeat refine WpM.seq ?_); have z_ex := (And.intro @q0 (And.intro @cnf.eq_1 (And.intro @encAns.eq_1 True.intro))); refine WpM.regPE [] [(5, _), (6, _), (7, _)] (by (refine s_o [(2, _)] rfl rfl rfl z_su rfl q_load z_fp z_ss ?_; refine s_pure (callOf_eq rfl rfl rfl (mlk_tmp z_lk (mlk_const rfl mlk_nil))) (c1) rfl rfl z_ip z_fp ?_; refine s_o [(32, _)] rfl rfl rfl z_su rfl q_move z_fp z_ss ?_; refine s_o [(30, _)] rfl rfl rfl z_su rfl q_extract z_fp z_ss ?_; refine s_o [(30, _)] rfl rfl rfl z_su rfl q_extract z_fp z_ss ?_; refine s_o [] rfl rfl rfl z_su rfl q_alloc z_fp z_ss ?_; refine s_o [(6, _), (33, _)] rfl rfl rfl z_su rfl q_store z_fp z_ss ?_; refine s_o [(34, _)] rfl rfl rfl z_su rfl q_move z_fp z_ss ?_; exact wpS_nil ⟨rfl, rfl⟩)) z_su ?_; clear z_ex)
      ((repeat refine WpM.seq ?_); have z_ex := (And.intro @q2 (And.intro @cnf.eq_1 (And.intro @encAns.eq_1 True.intro))); refine WpM.regPE [] [(6, _), (7, _), (8, _), (9, _)] (by (refine s_o [(5, _)] rfl rfl rfl z_su rfl q_load z_fp z_ss ?_; refine s_pure (callOf_eq rfl rfl rfl (mlk_tmp z_lk (mlk_const rfl mlk_nil))) (c2) rfl rfl z_ip z_fp ?_; refine s_o [(37, _)] rfl rfl rfl z_su rfl q_move z_fp z_ss ?_; refine s_o [(35, _)] rfl rfl rfl z_su rfl q_extract z_fp z_ss ?_; refine s_o [(35, _)] rfl rfl rfl z_su rfl q_extract z_fp z_ss ?_; refine s_o [] rfl rfl rfl z_su rfl q_alloc z_fp z_ss ?_; refine s_o [(8, _), (38, _)] rfl rfl rfl z_su rfl q_store z_fp z_ss ?_; refine s_o [(39, _)] rfl rfl rfl z_su rfl q_move z_fp z_ss ?_; exact wpS_nil ⟨rfl, rfl⟩)) z_su ?_; clear z_ex)
      have hfl : ∀ m k, H m = some k → lget [(nx2 + 4, some (Blk.box [V.d (.int .i64 a1.code), V.d (bools a1.model), V.d (cls a1.proof), V.d (.int .i64 a1.steps)])), (nx2 + 11, some (Blk.box [V.d (.int .i64 a2.code), V.d (bools a2.model), V.d (cls a2.proof), V.d (.int .i64 a2.steps)]))] G2 m = some k := fun m k hm => by
        have h1 := hlt m k hm
        have h2 := qH m k hm
        (simp (maxSteps := 2000000) (disch := omega) [go_sem, -List.map_map, h2])
      by_cases he1 : e1 = 0
      · by_cases he2 : e2 = 0
        · ((repeat refine WpM.seq ?_); have z_ex := (And.intro @he1 (And.intro @he2 True.intro)); refine WpM.regPE [] [(6, _), (7, _), (8, _), (45, _)] (by (refine s_o [(7, _)] rfl rfl rfl z_su rfl q_move z_fp z_ss ?_; refine s_o [(40, _)] rfl rfl rfl z_su rfl q_full z_fp z_ss ?_; refine s_o [(41, _)] rfl rfl rfl z_su rfl q_move z_fp z_ss ?_; refine s_wit ?_; intro z_g; (first | refine s_skip rfl z_g z_fp ?_ | (refine s_o [(9, _)] rfl z_g rfl z_su rfl q_move z_fp z_ss ?_)); clear z_g; refine s_wit ?_; intro z_g; (first | refine s_skip rfl z_g z_fp ?_ | (refine s_o [(43, _)] rfl z_g rfl z_su rfl q_full z_fp z_ss ?_)); clear z_g; refine s_o [(42, _), (44, _)] rfl rfl rfl z_su rfl q_move z_fp z_ss ?_; exact wpS_nil ⟨rfl, rfl⟩)) z_su ?_; clear z_ex)
          ((repeat refine WpM.seq ?_); refine WpM.condF (by (simp (maxSteps := 2000000) (disch := omega) [go_sem, -List.map_map])) ?_)
          refine WpM.skip ?_
          have hlw := hlaw he1 he2
          by_cases hcd : a1.code = 1
          · have hcd2 : ¬ a2.code = 2 := by
              rcases hlw with h | h
              · exact absurd hcd h
              · exact h
            ((repeat refine WpM.seq ?_); have z_ex := (And.intro @hcd (And.intro @hcd2 True.intro)); refine WpM.regPE [] [(4, _)] (by (refine s_o [(6, _)] rfl rfl rfl z_su rfl q_fieldAddr z_fp z_ss ?_; refine s_o [(53, _)] rfl rfl rfl z_su rfl q_load z_fp z_ss ?_; refine s_o [(54, _)] rfl rfl rfl z_su rfl q_full z_fp z_ss ?_; refine s_o [(55, _)] rfl rfl rfl z_su rfl q_move z_fp z_ss ?_; refine s_wit ?_; intro z_g; (first | refine s_skip rfl z_g z_fp ?_ | (refine s_o [(8, _)] rfl z_g rfl z_su rfl q_fieldAddr z_fp z_ss ?_)); clear z_g; refine s_wit ?_; intro z_g; (first | refine s_skip rfl z_g z_fp ?_ | (refine s_o [(57, _)] rfl z_g rfl z_su rfl q_load z_fp z_ss ?_)); clear z_g; refine s_wit ?_; intro z_g; (first | refine s_skip rfl z_g z_fp ?_ | (refine s_o [(58, _)] rfl z_g rfl z_su rfl q_full z_fp z_ss ?_)); clear z_g; refine s_o [(56, _), (59, _)] rfl rfl rfl z_su rfl q_move z_fp z_ss ?_; refine s_o [(60, _)] rfl rfl rfl z_su rfl q_move z_fp z_ss ?_; exact wpS_nil ⟨rfl, rfl⟩)) z_su ?_; clear z_ex)
            refine WpM.ret ?_
            exact fin _ _ hfl _ rfl
          · ((repeat refine WpM.seq ?_); have z_ex := (And.intro @hcd True.intro); refine WpM.regPE [] [(4, _)] (by (refine s_o [(6, _)] rfl rfl rfl z_su rfl q_fieldAddr z_fp z_ss ?_; refine s_o [(53, _)] rfl rfl rfl z_su rfl q_load z_fp z_ss ?_; refine s_o [(54, _)] rfl rfl rfl z_su rfl q_full z_fp z_ss ?_; refine s_o [(55, _)] rfl rfl rfl z_su rfl q_move z_fp z_ss ?_; refine s_wit ?_; intro z_g; (first | refine s_skip rfl z_g z_fp ?_ | (refine s_o [(8, _)] rfl z_g rfl z_su rfl q_fieldAddr z_fp z_ss ?_)); clear z_g; refine s_wit ?_; intro z_g; (first | refine s_skip rfl z_g z_fp ?_ | (refine s_o [(57, _)] rfl z_g rfl z_su rfl q_load z_fp z_ss ?_)); clear z_g; refine s_wit ?_; intro z_g; (first | refine s_skip rfl z_g z_fp ?_ | (refine s_o [(58, _)] rfl z_g rfl z_su rfl q_full z_fp z_ss ?_)); clear z_g; refine s_o [(56, _), (59, _)] rfl rfl rfl z_su rfl q_move z_fp z_ss ?_; refine s_o [(60, _)] rfl rfl rfl z_su rfl q_move z_fp z_ss ?_; exact wpS_nil ⟨rfl, rfl⟩)) z_su ?_; clear z_ex)
            refine WpM.ret ?_
            exact fin _ _ hfl _ rfl
        · ((repeat refine WpM.seq ?_); have z_ex := (And.intro @he1 (And.intro @he2 True.intro)); refine WpM.regPE [] [(6, _), (7, _), (8, _), (45, _)] (by (refine s_o [(7, _)] rfl rfl rfl z_su rfl q_move z_fp z_ss ?_; refine s_o [(40, _)] rfl rfl rfl z_su rfl q_full z_fp z_ss ?_; refine s_o [(41, _)] rfl rfl rfl z_su rfl q_move z_fp z_ss ?_; refine s_wit ?_; intro z_g; (first | refine s_skip rfl z_g z_fp ?_ | (refine s_o [(9, _)] rfl z_g rfl z_su rfl q_move z_fp z_ss ?_)); clear z_g; refine s_wit ?_; intro z_g; (first | refine s_skip rfl z_g z_fp ?_ | (refine s_o [(43, _)] rfl z_g rfl z_su rfl q_full z_fp z_ss ?_)); clear z_g; refine s_o [(42, _), (44, _)] rfl rfl rfl z_su rfl q_move z_fp z_ss ?_; exact wpS_nil ⟨rfl, rfl⟩)) z_su ?_; clear z_ex)
          ((repeat refine WpM.seq ?_); refine WpM.condT (by (simp (maxSteps := 2000000) (disch := omega) [go_sem, -List.map_map, he2])) ?_)
          ((repeat refine WpM.seq ?_); have z_ex := (And.intro @he1 True.intro); refine WpM.regPE [] [(4, _)] (by (refine s_o [(7, _)] rfl rfl rfl z_su rfl q_move z_fp z_ss ?_; refine s_o [(46, _)] rfl rfl rfl z_su rfl q_full z_fp z_ss ?_; refine s_o [(47, _)] rfl rfl rfl z_su rfl q_move z_fp z_ss ?_; refine s_wit ?_; intro z_g; (first | refine s_skip rfl z_g z_fp ?_ | (refine s_o [(6, _)] rfl z_g rfl z_su rfl q_fieldAddr z_fp z_ss ?_)); clear z_g; refine s_wit ?_; intro z_g; (first | refine s_skip rfl z_g z_fp ?_ | (refine s_o [(49, _)] rfl z_g rfl z_su rfl q_load z_fp z_ss ?_)); clear z_g; refine s_wit ?_; intro z_g; (first | refine s_skip rfl z_g z_fp ?_ | (refine s_o [(50, _)] rfl z_g rfl z_su rfl q_full z_fp z_ss ?_)); clear z_g; refine s_o [(48, _), (51, _)] rfl rfl rfl z_su rfl q_move z_fp z_ss ?_; refine s_o [(52, _)] rfl rfl rfl z_su rfl q_move z_fp z_ss ?_; exact wpS_nil ⟨rfl, rfl⟩)) z_su ?_; clear z_ex)
          refine WpM.ret ?_
          exact fin _ _ hfl _ rfl
      · have ha1 := her he1
        subst ha1
        ((repeat refine WpM.seq ?_); have z_ex := (And.intro @he1 True.intro); refine WpM.regPE [] [(6, _), (7, _), (8, _), (45, _)] (by (refine s_o [(7, _)] rfl rfl rfl z_su rfl q_move z_fp z_ss ?_; refine s_o [(40, _)] rfl rfl rfl z_su rfl q_full z_fp z_ss ?_; refine s_o [(41, _)] rfl rfl rfl z_su rfl q_move z_fp z_ss ?_; refine s_wit ?_; intro z_g; (first | refine s_skip rfl z_g z_fp ?_ | (refine s_o [(9, _)] rfl z_g rfl z_su rfl q_move z_fp z_ss ?_)); clear z_g; refine s_wit ?_; intro z_g; (first | refine s_skip rfl z_g z_fp ?_ | (refine s_o [(43, _)] rfl z_g rfl z_su rfl q_full z_fp z_ss ?_)); clear z_g; refine s_o [(42, _), (44, _)] rfl rfl rfl z_su rfl q_move z_fp z_ss ?_; exact wpS_nil ⟨rfl, rfl⟩)) z_su ?_; clear z_ex)
        ((repeat refine WpM.seq ?_); refine WpM.condT (by (simp (maxSteps := 2000000) (disch := omega) [go_sem, -List.map_map, he1])) ?_)
        ((repeat refine WpM.seq ?_); have z_ex := (And.intro @he1 (And.intro @zeroA.eq_1 True.intro)); refine WpM.regPE [] [(4, _)] (by (refine s_o [(7, _)] rfl rfl rfl z_su rfl q_move z_fp z_ss ?_; refine s_o [(46, _)] rfl rfl rfl z_su rfl q_full z_fp z_ss ?_; refine s_o [(47, _)] rfl rfl rfl z_su rfl q_move z_fp z_ss ?_; refine s_wit ?_; intro z_g; (first | refine s_skip rfl z_g z_fp ?_ | (refine s_o [(6, _)] rfl z_g rfl z_su rfl q_fieldAddr z_fp z_ss ?_)); clear z_g; refine s_wit ?_; intro z_g; (first | refine s_skip rfl z_g z_fp ?_ | (refine s_o [(49, _)] rfl z_g rfl z_su rfl q_load z_fp z_ss ?_)); clear z_g; refine s_wit ?_; intro z_g; (first | refine s_skip rfl z_g z_fp ?_ | (refine s_o [(50, _)] rfl z_g rfl z_su rfl q_full z_fp z_ss ?_)); clear z_g; refine s_o [(48, _), (51, _)] rfl rfl rfl z_su rfl q_move z_fp z_ss ?_; refine s_o [(52, _)] rfl rfl rfl z_su rfl q_move z_fp z_ss ?_; exact wpS_nil ⟨rfl, rfl⟩)) z_su ?_; clear z_ex)
        refine WpM.ret ?_
        exact fin _ _ hfl _ rfl
theorem solveFewer_law (n : Int) (cs : List (List Int)) (hn : IntOk .i64 n) (hcl : cs.length ≤ 1048576) (hcs : ∀ c ∈ cs, c.length ≤ 1048576) (_ : ∀ c ∈ cs, ∀ l ∈ c, IntOk .i64 l) (l : List Int) (hl : l.length ≤ 1048576) (_ : ∀ x ∈ l, IntOk .i64 x) :
    PureC Try.prog 8 [.d (cnf n cs), .d (ints l)] (.d (.bool true)) := law8 n cs l (IntOk.le hn) hcl hcs hl
end Go.Proofs.Ytafeehlpmdligaa
