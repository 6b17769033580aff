/- proof.Plain, assizeref16.Plain, assizeref16.Trim. -/
import Derived.Test.YtafeehlpmdligaaOp
import Derived.Test.YtafeehlpmdligaaTrim
import Derived.Test.YtafeehlpmdligaaPlain44
namespace Go.Proofs.Ytafeehlpmdligaa
open Go.RowKit M
set_option linter.unusedSimpArgs false
set_option linter.unusedVariables false
theorem okEl_ints (x : List Int) : okEl 1 (ints x) = true := rfl
theorem clone51f (c : List (List Int)) (hlen : c.length ≤ 1000000000) (H0 : Nat → Option Blk) : FreshOn Try.prog 51 [.d (cls c)] 1 (c.map ints) [] H0 := by
  intro S _
  refine CallM.start (n := 8) Try.func51 rfl rfl (by simp) (by simp only [argL, Nat.reduceAdd] <;> rfl) ?_
  intro hH
  obtain ⟨H, hHe⟩ : ∃ H, H = S.get := ⟨_, rfl⟩
  obtain ⟨n0, hne⟩ : ∃ n0, n0 = S.next := ⟨_, rfl⟩
  rw [← hHe, ← hne] at hH ⊢
  cases c with
  | nil =>
    ((repeat refine WpM.seq ?_); have z_ex := True.intro; refine WpM.regPE [] [(0, _)] (by (refine s_o [] rfl rfl rfl z_su rfl q_move z_fp z_ss ?_; exact wpS_nil ⟨rfl, rfl⟩)) z_su ?_; clear z_ex)
    ((repeat refine WpM.seq ?_); have z_ex := True.intro; refine WpM.regP [] ?_; intro K hK; refine s_o [(0, _)] rfl rfl rfl z_su rfl q_move z_fp z_ss ?_; refine wpS_cmp rfl rfl rfl rfl z_lk un22 ?_; intro z_b; refine s_put z_fp ?_; refine s_endE [(0, _), (4, _)] hK z_su ?_; clear hK K; clear z_ex)
    cases z_b with
    | true =>
      ((repeat refine WpM.seq ?_); refine WpM.condT (by (simp (maxSteps := 2000000) (disch := omega) [go_sem, -List.map_map])) ?_)
      ((repeat refine WpM.seq ?_); have z_ex := True.intro; refine WpM.regPE [] [(2, _)] (by (refine s_o [] rfl rfl rfl z_su rfl q_move z_fp z_ss ?_; exact wpS_nil ⟨rfl, rfl⟩)) z_su ?_; clear z_ex)
      refine WpM.ret ?_
      refine ⟨.inr rfl, Upd.ghost 2 1 (.inl (by (simp (maxSteps := 2000000) (disch := omega) [go_sem, -List.map_map]))) (Upd.done ⟨.ms (n0 + 4) 1 0 0, (by (simp (maxSteps := 2000000) (disch := omega) [go_sem, -List.map_map, resV, resVs, resV1, fset])), n0 + 4, by omega, rfl, (by (simp (maxSteps := 2000000) (disch := omega) [go_sem, -List.map_map])), fun m k hm hk => ?_⟩)⟩
      (simp (maxSteps := 2000000) (disch := omega) [go_sem, -List.map_map, hk])
    | false =>
      ((repeat refine WpM.seq ?_); refine WpM.condF (by (simp (maxSteps := 2000000) (disch := omega) [go_sem, -List.map_map])) ?_)
      refine WpM.skip ?_
      ((repeat refine WpM.seq ?_); have z_ex := (And.intro @cls.eq_1 True.intro); refine WpM.regPE [] [(2, _)] (by (refine s_o [] rfl rfl rfl z_su rfl q_full z_fp z_ss ?_; refine s_o [(0, _)] rfl rfl rfl z_su rfl q_move z_fp z_ss ?_; refine s_o [(5, _), (6, _)] rfl rfl rfl z_su rfl q_full z_fp z_ss ?_; refine s_o [(7, _)] rfl rfl rfl z_su rfl q_move z_fp z_ss ?_; exact wpS_nil ⟨rfl, rfl⟩)) z_su ?_; clear z_ex)
      refine WpM.ret ?_
      refine ⟨.inr rfl, Upd.done ⟨.ms (n0 + 5) 1 0 0, (by (simp (maxSteps := 2000000) (disch := omega) [go_sem, -List.map_map, resV, resVs, resV1])), n0 + 5, by omega, rfl, (by (simp (maxSteps := 2000000) (disch := omega) [go_sem, -List.map_map])), fun m k hm hk => ?_⟩⟩
      (simp (maxSteps := 2000000) (disch := omega) [go_sem, -List.map_map, hk])
  | cons a r =>
    ((repeat refine WpM.seq ?_); have z_ex := True.intro; refine WpM.regPE [] [(0, _)] (by (refine s_o [] rfl rfl rfl z_su rfl q_move z_fp z_ss ?_; exact wpS_nil ⟨rfl, rfl⟩)) z_su ?_; clear z_ex)
    ((repeat refine WpM.seq ?_); have z_ex := (And.intro @cls.eq_1 True.intro); refine WpM.regPE [] [(0, _), (4, _)] (by (refine s_o [(0, _)] rfl rfl rfl z_su rfl q_move z_fp z_ss ?_; refine s_o [(3, _)] rfl rfl rfl z_su rfl q_full z_fp z_ss ?_; exact wpS_nil ⟨rfl, rfl⟩)) z_su ?_; clear z_ex)
    ((repeat refine WpM.seq ?_); refine WpM.condF (by (simp (maxSteps := 2000000) (disch := omega) [go_sem, -List.map_map])) ?_)
    refine WpM.skip ?_
    simp only [List.length_cons] at hlen
    ((repeat refine WpM.seq ?_); have z_ex := (And.intro @cls.eq_1 (And.intro @ints.eq_1 True.intro)); refine WpM.regPE [] [(2, _)] (by (refine s_o [] rfl rfl rfl z_su rfl q_full z_fp z_ss ?_; refine s_o [(0, _)] rfl rfl rfl z_su rfl q_move z_fp z_ss ?_; refine s_o [(5, _), (6, _)] rfl rfl rfl z_su rfl q_full z_fp z_ss ?_; refine s_o [(7, _)] rfl rfl rfl z_su rfl q_move z_fp z_ss ?_; exact wpS_nil ⟨rfl, rfl⟩)) z_su ?_; clear z_ex)
    refine WpM.ret ?_
    refine ⟨.inr rfl, Upd.done ⟨.ms (n0 + 5) 1 0 (r.length + 1), (by (simp (maxSteps := 2000000) (disch := omega) [go_sem, -List.map_map, resV, resVs, resV1])), n0 + 5, by omega, (by simp), (by (simp (maxSteps := 2000000) (disch := omega) [go_sem, -List.map_map, ints])), fun m k hm hk => ?_⟩⟩
    (simp (maxSteps := 2000000) (disch := omega) [go_sem, -List.map_map, hk])
set_option maxHeartbeats 8000000 in
theorem plain27 (n : Int) (cs xs : List (List Int)) (c : List Int) (hcl : cs.length ≤ 140737488351232) (hcs : ∀ c ∈ cs, c.length ≤ 140737488351232) (hxl : xs.length ≤ 1048576) (hxs : ∀ c ∈ xs, c.length ≤ 1048576) (hc : c.length ≤ 1048576) :
    PureC Try.prog 27 [.d (cnf n cs), .d (cls xs), .d (ints c)] (.tup [.d (.bool (if soundP n cs (xs ++ [c]) = 0 then followsB (cs ++ xs) c else false)), .d (.int .i64 (soundP n cs (xs ++ [c])))]) := by
  refine PureC.of (n := 26) Try.func27 rfl rfl (by simp) (by simp only [argL, Nat.reduceAdd] <;> rfl) (by rfl) ?_
  intro n0 H hH
  have hs := sound43 n cs (xs ++ [c]) hcl hcs (by simp; omega) (fun d hd => by
    rcases List.mem_append.1 hd with hd | hd
    · have := hxs d hd; omega
    · rw [List.mem_singleton] at hd; subst hd; omega)
  have hs' : PureC Try.prog 43 [.d (cnf n cs), .d (.sl (xs.map ints ++ [ints c]))] (.d (.int .i64 (soundP n cs (xs ++ [c])))) := by
    have : cls (xs ++ [c]) = .sl (xs.map ints ++ [ints c]) := by simp [cls]
    rw [← this]; exact hs
  obtain ⟨e, he⟩ : ∃ e, e = soundP n cs (xs ++ [c]) := ⟨_, rfl⟩
  rw [← he] at hs' ⊢
  have htk : ((xs.map ints).map V.d).take xs.length = (xs.map ints).map V.d := List.take_of_length_le (by simp)
  have has := allD_snoc (xs.map ints) (ints c)
  ((repeat refine WpM.seq ?_); have z_ex := (And.intro @cnf.eq_1 True.intro); refine WpM.regPE [] [(1, _), (2, _), (3, _)] (by (refine s_o [(0, _)] rfl rfl rfl z_su rfl q_box z_fp z_ss ?_; refine s_o [] rfl rfl rfl z_su rfl q_move z_fp z_ss ?_; refine s_o [] rfl rfl rfl z_su rfl q_move z_fp z_ss ?_; exact wpS_nil ⟨rfl, rfl⟩)) z_su ?_; clear z_ex)
  ((repeat refine WpM.seq ?_); have z_ex := (And.intro @cls.eq_1 (And.intro @htk (And.intro @has (And.intro @okEl_ints True.intro)))); refine WpM.regPE [15] [(1, _), (2, _), (3, _), (8, _)] (by (refine s_o [] rfl rfl rfl z_su rfl q_full z_fp z_ss ?_; refine s_o [(1, _)] rfl rfl rfl z_su rfl q_move z_fp z_ss ?_; refine s_o [(10, _), (11, _)] rfl rfl rfl z_su rfl q_full z_fp z_ss ?_; refine s_o [(2, _)] rfl rfl rfl z_su rfl q_move z_fp z_ss ?_; refine s_o [(13, _)] rfl rfl rfl z_su rfl q_full z_fp z_ss ?_; refine s_o [(12, _), (14, _)] rfl rfl rfl z_su rfl q_full z_fp z_ss ?_; refine s_o [(15, _)] rfl rfl rfl z_su rfl q_move z_fp z_ss ?_; exact wpS_nil ⟨rfl, rfl⟩)) z_su ?_; clear z_ex)
  ((repeat refine WpM.seq ?_); have z_ex := (And.intro @cnf.eq_1 True.intro); refine WpM.regPE [] [(1, _), (2, _), (3, _), (9, _)] (by (refine s_o [(3, _)] rfl rfl rfl z_su rfl q_load z_fp z_ss ?_; refine s_o [(8, _)] rfl rfl rfl z_su rfl q_move z_fp z_ss ?_; refine s_pure (callOf_eq rfl rfl rfl (mlk_tmp z_lk (mlk_tmp z_lk mlk_nil))) (hs') rfl rfl z_ip z_fp ?_; refine s_o [(18, _)] rfl rfl rfl z_su rfl q_move z_fp z_ss ?_; exact wpS_nil ⟨rfl, rfl⟩)) z_su ?_; clear z_ex)
  by_cases h0 : e = 0
  · subst h0
    have hok := sound_ok he.symm
    obtain ⟨N, rfl⟩ := Int.eq_ofNat_of_zero_le hok.n0
    have hN : N ≤ 4096 := by have := hok.n1; omega
    have hlo : ∀ l, litOk N l = true → l ≠ 0 ∧ -(N : Int) ≤ l ∧ l ≤ N := fun l hl => by simpa [litOk] using hl
    have hcc := hok.cl
    have hxx := hok.xl
    have hc1 := hok.xs c (by simp)
    have hP := plain44 N cs xs c hN (fun d hd => by
      rcases List.mem_append.1 hd with hd | hd
      · have := hok.cs d hd
        exact ⟨by omega, fun l hl => hlo l (this.2 l hl)⟩
      · have := hok.xs d (by simp [hd])
        exact ⟨by omega, fun l hl => hlo l (this.2 l hl)⟩) (by rw [List.length_append]; omega) (fun l hl => hlo l (hc1.2 l hl)) (by omega)
    ((repeat refine WpM.seq ?_); have z_ex := True.intro; refine WpM.regPE [] [(1, _), (2, _), (3, _), (9, _), (20, _)] (by (refine s_o [(9, _)] rfl rfl rfl z_su rfl q_move z_fp z_ss ?_; refine s_o [(19, _)] rfl rfl rfl z_su rfl q_full z_fp z_ss ?_; exact wpS_nil ⟨rfl, rfl⟩)) z_su ?_; clear z_ex)
    ((repeat refine WpM.seq ?_); refine WpM.condF (by (simp (maxSteps := 2000000) (disch := omega) [go_sem, -List.map_map])) ?_)
    refine WpM.skip ?_
    ((repeat refine WpM.seq ?_); have z_ex := (And.intro @cnf.eq_1 True.intro); refine WpM.regPE [] [(6, _), (7, _)] (by (refine s_o [(3, _)] rfl rfl rfl z_su rfl q_load z_fp z_ss ?_; refine s_o [(1, _)] rfl rfl rfl z_su rfl q_move z_fp z_ss ?_; refine s_o [(2, _)] rfl rfl rfl z_su rfl q_move z_fp z_ss ?_; refine s_pure (callOf_eq rfl rfl rfl (mlk_tmp z_lk (mlk_tmp z_lk (mlk_tmp z_lk mlk_nil)))) (hP) rfl rfl z_ip z_fp ?_; refine s_o [(25, _)] rfl rfl rfl z_su rfl q_move z_fp z_ss ?_; refine s_o [] rfl rfl rfl z_su rfl q_move z_fp z_ss ?_; exact wpS_nil ⟨rfl, rfl⟩)) z_su ?_; clear z_ex)
    (refine WpM.ret ?_; refine ⟨.inr rfl, Upd.done ?_⟩; (simp (maxSteps := 2000000) (disch := omega) [go_sem, -List.map_map, resV, resVs, resV1,]))
  · ((repeat refine WpM.seq ?_); have z_ex := (And.intro @h0 True.intro); refine WpM.regPE [] [(1, _), (2, _), (3, _), (9, _), (20, _)] (by (refine s_o [(9, _)] rfl rfl rfl z_su rfl q_move z_fp z_ss ?_; refine s_o [(19, _)] rfl rfl rfl z_su rfl q_full z_fp z_ss ?_; exact wpS_nil ⟨rfl, rfl⟩)) z_su ?_; clear z_ex)
    ((repeat refine WpM.seq ?_); refine WpM.condT (by (simp (maxSteps := 2000000) (disch := omega) [go_sem, -List.map_map, h0])) ?_)
    ((repeat refine WpM.seq ?_); have z_ex := True.intro; refine WpM.regPE [] [(6, _), (7, _)] (by (refine s_o [(9, _)] rfl rfl rfl z_su rfl q_move z_fp z_ss ?_; refine s_o [] rfl rfl rfl z_su rfl q_move z_fp z_ss ?_; refine s_o [(21, _)] rfl rfl rfl z_su rfl q_move z_fp z_ss ?_; exact wpS_nil ⟨rfl, rfl⟩)) z_su ?_; clear z_ex)
    (refine WpM.ret ?_; refine ⟨.inr rfl, Upd.done ?_⟩; (simp (maxSteps := 2000000) (disch := omega) [go_sem, -List.map_map, resV, resVs, resV1, h0]))
end Go.Proofs.Ytafeehlpmdligaa
