/- proof.Plain. -/
import Derived.Test.YtafeehlpmdligaaOp
import Derived.Test.YtafeehlpmdligaaPlain7
namespace Go.Proofs.Ytafeehlpmdligaa
open Go.RowKit M
set_option linter.unusedSimpArgs false
set_option linter.unusedVariables false
set_option maxHeartbeats 8000000 in
theorem plain26 (n : Int) (cs xs : List (List Int)) (c : List Int) (hcl : cs.length ≤ 140737488351232) (hcs : ∀ c ∈ cs, c.length ≤ 140737488351232) (hxl : xs.length ≤ 1048576) (hxs : ∀ c ∈ xs, c.length ≤ 1048576) (hc : c.length ≤ 1048576) :
    PureC Try.prog 26 [.d (cnf n cs), .d (cls xs), .d (ints c)] (.tup [.d (.bool (if soundP n cs (xs ++ [c]) = 0 then followsB (cs ++ xs) c else false)), .d (.int .i64 (soundP n cs (xs ++ [c])))]) := by
  intro S
  refine CallM.pure' (by rfl) (CallM.start (n := 37) Try.func26 rfl rfl (by simp) (by simp only [argL, Nat.reduceAdd] <;> rfl) ?_)
  intro hH
  obtain ⟨H, hHe⟩ : ∃ H, H = S.get := ⟨_, rfl⟩
  obtain ⟨n0, hne⟩ : ∃ n0, n0 = S.next := ⟨_, rfl⟩
  rw [← hHe, ← hne] at hH ⊢
  have hs := sound39 n cs (xs ++ [c]) hcl hcs (by simp; omega) (fun d hd => by
    rcases List.mem_append.1 hd with hd | hd
    · have := hxs d hd; omega
    · rw [List.mem_singleton] at hd; subst hd; omega)
  have hs' : PureC Try.prog 39 [.d (cnf n cs), .d (.sl (xs.map ints ++ [ints c]))] (.d (.int .i64 (soundP n cs (xs ++ [c])))) := by
    have : cls (xs ++ [c]) = .sl (xs.map ints ++ [ints c]) := by simp [cls]
    rw [← this]; exact hs
  obtain ⟨e, he⟩ : ∃ e, e = soundP n cs (xs ++ [c]) := ⟨_, rfl⟩
  rw [← he] at hs' ⊢
  have htk : ((xs.map ints).map V.d).take xs.length = (xs.map ints).map V.d := List.take_of_length_le (by simp)
  have has := allD_snoc (xs.map ints) (ints c)
  have hlm : (xs.map ints).length = xs.length := by simp
  ((repeat refine WpM.seq ?_); have z_ex := (And.intro @cnf.eq_1 True.intro); refine WpM.regPE [] [(1, _), (2, _), (3, _)] (by (refine s_o [(0, _)] rfl rfl rfl z_su rfl q_box z_fp z_ss ?_; refine s_o [] rfl rfl rfl z_su rfl q_move z_fp z_ss ?_; refine s_o [] rfl rfl rfl z_su rfl q_move z_fp z_ss ?_; exact wpS_nil ⟨rfl, rfl⟩)) z_su ?_; clear z_ex)
  ((repeat refine WpM.seq ?_); have z_ex := (And.intro @cls.eq_1 (And.intro @cnf.eq_1 (And.intro @htk (And.intro @has (And.intro @hlm (And.intro @okEl_ints True.intro)))))); refine WpM.drwPE [17] [(1, _), (2, _), (3, _), (8, _)] mixed (by kernel_rfl) (by kernel_rfl) [(0, 2), (0, 4), (2, 4), (0, 5)] (by kernel_rfl) (by (refine d_o [(3, _)] rfl rfl rfl z_su rfl q_load z_fp z_ss rfl ?_; refine d_o [(1, _)] rfl rfl rfl z_su rfl q_move z_fp z_ss rfl ?_; refine wpD_fresh rfl rfl (callOf_eq rfl rfl rfl (mlk_tmp z_lk mlk_nil)) z_ip (clone51f xs (by omega) _) z_fp rfl ?_; refine d_o [(2, _)] rfl rfl rfl z_su rfl q_move z_fp z_ss rfl ?_; refine d_o [(15, _)] rfl rfl rfl z_su rfl q_full z_fp z_ss rfl ?_; refine d_o [(14, _), (16, _)] rfl rfl rfl z_su rfl q_full z_fp z_ss rfl ?_; refine d_pure (callOf_eq rfl rfl rfl (mlk_tmp z_lk (mlk_tmp z_lk mlk_nil))) (hs') rfl rfl z_ip rfl z_fp ?_; refine d_o [(18, _)] rfl rfl rfl z_su rfl q_move z_fp z_ss rfl ?_; exact d_end z_mt z_sn)) z_su ?_; clear z_ex)
  refine WpM.norm ?_
  intro nx0 G0 hnx0 hG0 hk0
  have kb : G0 n0 = some (.box [.d (.int .i64 n), .d (cls cs)]) := by rw [hG0]; (simp (maxSteps := 2000000) (disch := omega) [go_sem, -List.map_map])
  have kp : ∀ m k, H m = some k → G0 m = some k := by
    intro m k hm
    have := hH _ _ hm
    rw [hG0]
    (simp (maxSteps := 2000000) (disch := omega) [go_sem, -List.map_map, hm])
  clear hG0 hnx0 hk0
  by_cases h0 : e = 0
  · subst h0
    have hok := sound_ok he.symm
    have hm := hok.mass
    have hl := hok.lits
    rw [mass_append] at hm
    have hmc : mass [c] = 1 + c.length := by simp [mass]
    ((repeat refine WpM.seq ?_); have z_ex := True.intro; refine WpM.regPE [] [(1, _), (2, _), (3, _), (8, _), (20, _)] (by (refine s_o [(8, _)] rfl rfl rfl z_su rfl q_move z_fp z_ss ?_; refine s_o [(19, _)] rfl rfl rfl z_su rfl q_full z_fp z_ss ?_; exact wpS_nil ⟨rfl, rfl⟩)) z_su ?_; clear z_ex)
    ((repeat refine WpM.seq ?_); refine WpM.condF (by (simp (maxSteps := 2000000) (disch := omega) [go_sem, -List.map_map])) ?_)
    refine WpM.skip ?_
    ((repeat refine WpM.seq ?_); have z_ex := (And.intro @kb (And.intro @cnf.eq_1 True.intro)); refine WpM.regP [] ?_; intro K hK; refine s_o [(3, _)] rfl rfl rfl z_su rfl q_load z_fp z_ss ?_; refine s_call (callOf_eq rfl rfl rfl (mlk_tmp z_lk mlk_nil)) (new40 H n cs _ kp (by omega) (fun c hc l hl' => (hl c (List.mem_append_left _ hc) l hl').2)) rfl rfl z_ip ?_; rintro _ _ ⟨ck, rfl, hC⟩; refine s_put z_fp ?_; refine s_o [(23, _)] rfl rfl rfl z_su rfl q_move z_fp z_ss ?_; refine s_endE [(1, _), (2, _), (9, _)] hK z_su ?_; clear hK K; clear z_ex)
    refine WpM.norm ?_
    intro nx1 G1 hnx1 hG1 hk1
    have hC0 : CkS H ck cs G1 := by rw [hG1]; exact hC
    clear hC hG1 hnx1 hk1 kb kp
    ((repeat refine WpM.seq ?_); have z_ex := (And.intro @cls.eq_1 True.intro); refine WpM.regPE [] [(2, _), (9, _), (24, _), (25, _), (26, _)] (by (refine s_o [(1, _)] rfl rfl rfl z_su rfl q_move z_fp z_ss ?_; refine s_o [(24, _)] rfl rfl rfl z_su rfl q_full z_fp z_ss ?_; refine s_o [] rfl rfl rfl z_su rfl q_move z_fp z_ss ?_; exact wpS_nil ⟨rfl, rfl⟩)) z_su ?_; clear z_ex)
    ((repeat refine WpM.seq ?_); refine WpM.block ?_)
    refine WpM.loop (fun (j : Nat) fr S => j ≤ xs.length ∧ ∃ nx G, S = ⟨nx, [], G⟩ ∧ CkS H ck (cs ++ xs.take j) G ∧ fr = frOf [(2, .d (ints c)), (9, .ptr ck 0), (24, .d (cls xs)), (25, .d (.int .i64 xs.length)), (26, .d (.int .i64 j))]) (fun j => xs.length - j) 0 (St.Le.refl _) (frLe_frOf (by (simp (maxSteps := 2000000) (disch := omega) [go_sem, -List.map_map, cls]))) ⟨by omega, _, _, rfl, by simpa using hC0, rfl⟩ ?_
    rintro j fr S' ⟨hj, nx, G, rfl, hE, rfl⟩
    ((repeat refine WpM.seq ?_); have z_ex := True.intro; refine WpM.regPE [] [(2, _), (9, _), (24, _), (25, _), (26, _), (27, _)] (by (refine s_o [(25, _), (26, _)] rfl rfl rfl z_su rfl q_full z_fp z_ss ?_; exact wpS_nil ⟨rfl, rfl⟩)) z_su ?_; clear z_ex)
    by_cases hlt : j < xs.length
    · ((repeat refine WpM.seq ?_); refine WpM.condT (by (simp (maxSteps := 2000000) (disch := omega) [go_sem, -List.map_map, hlt])) ?_)
      refine WpM.skip ?_
      ((repeat refine WpM.seq ?_); refine WpM.block ?_)
      have hxm : xs[j] ∈ xs := List.getElem_mem _
      have hms := mass_take hlt
      have hml := mass_take_le xs (j + 1)
      have hma := mass_append cs (xs.take j)
      obtain ⟨x, hxe⟩ : ∃ x, x = xs[j] := ⟨_, rfl⟩
      have hget : (xs.map ints)[j]? = some (ints x) := by rw [lens xs j hlt, hxe]
      have htk2 : xs.take (j + 1) = xs.take j ++ [x] := by rw [List.take_succ_eq_append_getElem hlt, hxe]
      rw [← hxe] at hxm hms
      have hlx := hl x (List.mem_append_right _ (List.mem_append_left _ hxm))
      ((repeat refine WpM.seq ?_); have z_ex := (And.intro @hget (And.intro @cls.eq_1 (And.intro @ints.eq_1 True.intro))); refine WpM.regPE [] [(2, _), (9, _), (11, _), (24, _), (25, _), (26, _)] (by (refine s_o [(24, _), (26, _)] rfl rfl rfl z_su rfl q_full z_fp z_ss ?_; refine s_o [(28, _)] rfl rfl rfl z_su rfl q_load z_fp z_ss ?_; refine s_o [(29, _)] rfl rfl rfl z_su rfl q_move z_fp z_ss ?_; exact wpS_nil ⟨rfl, rfl⟩)) z_su ?_; clear z_ex)
      rw [← hxe]
      ((repeat refine WpM.seq ?_); have z_ex := (And.intro @ints.eq_1 True.intro); refine WpM.regP [] ?_; intro K hK; refine s_o [(9, _)] rfl rfl rfl z_su rfl q_move z_fp z_ss ?_; refine s_o [(11, _)] rfl rfl rfl z_su rfl q_move z_fp z_ss ?_; refine s_call (callOf_eq rfl rfl rfl (mlk_tmp z_lk (mlk_tmp z_lk mlk_nil))) (add42 H ck (cs ++ xs.take j) x ⟨_, [], G⟩ hE (by omega) (fun l hl => (hlx l hl).2)) rfl rfl z_ip ?_; rintro _ _ hC; refine s_put z_fp ?_; refine s_endE [(2, _), (9, _), (24, _), (25, _), (26, _)] hK z_su ?_; clear hK K; clear z_ex)
      refine WpM.norm ?_
      intro nx2 G2 hnx2 hG2 hk2
      rw [List.append_assoc, ← htk2] at hC
      ((repeat refine WpM.seq ?_); have z_ex := (And.intro @wrap_id True.intro); refine WpM.regPE [] [(2, _), (9, _), (24, _), (25, _), (26, _)] (by (refine s_o [(26, _)] rfl rfl rfl z_su rfl q_full z_fp z_ss ?_; refine s_o [(33, _)] rfl rfl rfl z_su rfl q_move z_fp z_ss ?_; exact wpS_nil ⟨rfl, rfl⟩)) z_su ?_; clear z_ex)
      exact round_end (x' := j + 1) (St.Le.refl _) (frLe_frOf (by (simp (maxSteps := 2000000) (disch := omega) [go_sem, -List.map_map, wrap_id]))) ⟨by omega, _, _, rfl, by rw [hG2]; exact hC, rfl⟩ (by omega)
    · ((repeat refine WpM.seq ?_); refine WpM.condF (by (simp (maxSteps := 2000000) (disch := omega) [go_sem, -List.map_map, hlt])) ?_)
      (refine WpM.exit ?_; (repeat (with_reducible (first | refine thenM_exit ?_ | refine blockM_eq ?_ | refine blockM_ne (by decide) ?_))))
      obtain rfl : j = xs.length := by omega
      rw [List.take_length] at hE
      have hma := mass_append cs xs
      have hP := fun nx => plain41 H ck (cs ++ xs) c ⟨nx, [], G⟩ hE (by omega) (fun d hd => hl d (by
        rcases List.mem_append.1 hd with hd | hd
        · exact List.mem_append_left _ hd
        · exact List.mem_append_right _ (List.mem_append_left _ hd))) (hl c (by simp)) (by omega)
      have hkp : ∀ m k, H m = some k → G m = some k := by
        obtain ⟨_, _, _, _, _, hE'⟩ := hE
        exact hE'.keep
      rw [if_pos rfl]
      generalize followsB (cs ++ xs) c = b at hP
      ((repeat refine WpM.seq ?_); have z_ex := (And.intro @ints.eq_1 True.intro); refine WpM.regPE [] [(6, _), (7, _)] (by (refine s_o [(9, _)] rfl rfl rfl z_su rfl q_move z_fp z_ss ?_; refine s_o [(2, _)] rfl rfl rfl z_su rfl q_move z_fp z_ss ?_; refine s_at (callOf_eq rfl rfl rfl (mlk_tmp z_lk (mlk_tmp z_lk mlk_nil))) (hP _) rfl rfl z_ip z_fp ?_; refine s_o [(36, _)] rfl rfl rfl z_su rfl q_move z_fp z_ss ?_; refine s_o [] rfl rfl rfl z_su rfl q_move z_fp z_ss ?_; exact wpS_nil ⟨rfl, rfl⟩)) z_su ?_; clear z_ex)
      refine WpM.ret ?_
      exact ⟨.inr rfl, Upd.done ⟨.tup [.d (.bool b), .d (.int .i64 0)], (by (simp (maxSteps := 2000000) (disch := omega) [go_sem, -List.map_map, resV, resVs, resV1])), rfl, fun m k _ hk => hkp m k hk⟩⟩
  · rw [if_neg h0]
    ((repeat refine WpM.seq ?_); have z_ex := (And.intro @h0 True.intro); refine WpM.regPE [] [(1, _), (2, _), (3, _), (8, _), (20, _)] (by (refine s_o [(8, _)] rfl rfl rfl z_su rfl q_move z_fp z_ss ?_; refine s_o [(19, _)] rfl rfl rfl z_su rfl q_full z_fp z_ss ?_; exact wpS_nil ⟨rfl, rfl⟩)) z_su ?_; clear z_ex)
    ((repeat refine WpM.seq ?_); refine WpM.condT (by (simp (maxSteps := 2000000) (disch := omega) [go_sem, -List.map_map, h0])) ?_)
    ((repeat refine WpM.seq ?_); have z_ex := True.intro; refine WpM.regPE [] [(6, _), (7, _)] (by (refine s_o [(8, _)] rfl rfl rfl z_su rfl q_move z_fp z_ss ?_; refine s_o [] rfl rfl rfl z_su rfl q_move z_fp z_ss ?_; refine s_o [(21, _)] rfl rfl rfl z_su rfl q_move z_fp z_ss ?_; exact wpS_nil ⟨rfl, rfl⟩)) z_su ?_; clear z_ex)
    refine WpM.ret ?_
    exact ⟨.inr rfl, Upd.done ⟨.tup [.d (.bool false), .d (.int .i64 e)], (by (simp (maxSteps := 2000000) (disch := omega) [go_sem, -List.map_map, resV, resVs, resV1])), rfl, fun m k _ hk => kp m k hk⟩⟩
end Go.Proofs.Ytafeehlpmdligaa
