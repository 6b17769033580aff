/- proof.(*checker).plain$2: a clause is looked at. The case that two literals are left. -/
import Derived.Test.YtafeehlpmdligaaROp
import Derived.Test.YtafeehlpmdligaaRPut64
namespace Go.Proofs.Ytafeehlpmdligaa
open Go.RowKit M
set_option linter.unusedSimpArgs false
set_option linter.unusedVariables false
/-- The one literal that is left (0: none); none: two are left. -/
def scan (s : Int → Bool) : Int → List Int → Option Int
  | left, [] => some left
  | left, l :: r => if s (-l) = true ∨ l = left then scan s left r else if left ≠ 0 then none else scan s l r
set_option maxHeartbeats 8000000 in
theorem look65_two (i m : Nat) (c : List Int) (xs : List V) (hx : xs[i]? = some (.d (ints c))) (hm : xs.length = m) (him : i < m) (hlit : ∀ l ∈ c, -4096 ≤ l ∧ l ≤ 4096) (hlen : c.length ≤ 140737488351232) (s : Int → Bool) (hs : scan s 0 c = none) (b1 b2 b3 ck nc nm : Nat) (v1 v2 : V) (S : St)
    (k1 : S.get b1 = some (.box [.ptr ck 0])) (k2 : S.get ck = some (.box [.ms nc 1 0 m, v1, v2])) (k3 : S.get nc = some (.row 1 xs)) (k4 : S.get b2 = some (.box [.map nm])) (k5 : S.get nm = some (.map (.int .i64) (setM s))) :
    PureS Try.prog 65 [.d (.int .i64 i), .ptr b1 0, .ptr b2 0, .ptr b3 0] (.d (.bool true)) S := by
  refine PureS.of (n := 47) Try.func65 rfl rfl (by simp) (by simp only [argL, Nat.reduceAdd] <;> rfl) rfl ?_
  intro n0 H hH0 hH
  rw [hH0] at k1 k2 k3 k4 k5
  ((repeat refine WpM.seq ?_); have z_ex := True.intro; refine WpM.regPE [] [(0, _), (1, _), (2, _), (3, _)] (by (refine s_o [] rfl rfl rfl z_su rfl q_move z_fp z_ss ?_; exact wpS_nil ⟨rfl, rfl⟩)) z_su ?_; clear z_ex)
  ((repeat refine WpM.seq ?_); have z_ex := True.intro; refine WpM.regPE [] [(0, _), (1, _), (2, _), (3, _), (6, _)] (by (refine s_o [] rfl rfl rfl z_su rfl q_move z_fp z_ss ?_; exact wpS_nil ⟨rfl, rfl⟩)) z_su ?_; clear z_ex)
  have hx' : xs[i]? = some (.d (.sl (c.map (D.int .i64)))) := hx
  ((repeat refine WpM.seq ?_); have z_ex := (And.intro @k1 (And.intro @k2 (And.intro @k3 (And.intro @hx' (And.intro @him True.intro))))); refine WpM.regPE [] [(2, _), (3, _), (6, _), (17, _), (18, _), (19, _)] (by (refine s_o [(1, _)] rfl rfl rfl z_su rfl q_load z_fp z_ss ?_; refine s_o [(11, _)] rfl rfl rfl z_su rfl q_move z_fp z_ss ?_; refine s_o [(12, _)] rfl rfl rfl z_su rfl q_fieldAddr z_fp z_ss ?_; refine s_o [(13, _)] rfl rfl rfl z_su rfl q_load z_fp z_ss ?_; refine s_o [(0, _)] rfl rfl rfl z_su rfl q_move z_fp z_ss ?_; refine s_o [(14, _), (15, _)] rfl rfl rfl z_su rfl q_full z_fp z_ss ?_; refine s_o [(16, _)] rfl rfl rfl z_su rfl q_load z_fp z_ss ?_; refine s_o [(17, _)] rfl rfl rfl z_su rfl q_full z_fp z_ss ?_; refine s_o [] rfl rfl rfl z_su rfl q_move z_fp z_ss ?_; exact wpS_nil ⟨rfl, rfl⟩)) z_su ?_; clear z_ex)
  ((repeat refine WpM.seq ?_); refine WpM.block ?_)
  refine WpM.loop (fun (j : Nat) fr S => j ≤ c.length ∧ ∃ left, scan s left (c.drop j) = none ∧ fr = frOf [(2, .ptr b2 0), (3, .ptr b3 0), (6, .d (.int .i64 left)), (17, .d (ints c)), (18, .d (.int .i64 c.length)), (19, .d (.int .i64 j))] ∧ ∃ nx, n0 ≤ nx ∧ S = ⟨nx, [], H⟩) (fun j => c.length - j) 0 (St.Le.refl _) (frLe_frOf (by (simp (maxSteps := 2000000) (disch := omega) [go_sem, -List.map_map, ints]))) ⟨by omega, 0, by simpa using hs, rfl, _, ?_, rfl⟩ ?_
  · omega
  rintro j fr S' ⟨hj, left, hsc, rfl, nx, hnx, rfl⟩
  have g4 : b2 < n0 := hH _ _ k4
  have g5 : nm < n0 := hH _ _ k5
  ((repeat refine WpM.seq ?_); have z_ex := True.intro; refine WpM.regPE [] [(2, _), (3, _), (6, _), (17, _), (18, _), (19, _), (20, _)] (by (refine s_o [(18, _), (19, _)] rfl rfl rfl z_su rfl q_full z_fp z_ss ?_; exact wpS_nil ⟨rfl, rfl⟩)) z_su ?_; clear z_ex)
  by_cases hlt : j < c.length
  · ((repeat refine WpM.seq ?_); refine WpM.condT (by (simp (maxSteps := 2000000) (disch := omega) [go_sem, -List.map_map, hlt])) ?_)
    refine WpM.skip ?_
    ((repeat refine WpM.seq ?_); refine WpM.block ?_)
    have hl := hlit c[j] (List.getElem_mem _)
    rw [List.drop_eq_getElem_cons hlt, scan] at hsc
    obtain ⟨l, hle⟩ : ∃ l, l = c[j] := ⟨_, rfl⟩
    have hget : (c.map (D.int .i64))[j]? = some (.int .i64 l) := by simp [hlt, hle]
    rw [← hle] at hl hsc
    obtain ⟨hl1, hl2⟩ := hl
    ((repeat refine WpM.seq ?_); have z_ex := (And.intro @hget (And.intro @ints.eq_1 True.intro)); refine WpM.regPE [] [(2, _), (3, _), (6, _), (8, _), (17, _), (18, _), (19, _)] (by (refine s_o [(17, _), (19, _)] rfl rfl rfl z_su rfl q_full z_fp z_ss ?_; refine s_o [(21, _)] rfl rfl rfl z_su rfl q_load z_fp z_ss ?_; refine s_o [(22, _)] rfl rfl rfl z_su rfl q_move z_fp z_ss ?_; exact wpS_nil ⟨rfl, rfl⟩)) z_su ?_; clear z_ex)
    cases h1 : s (-l) with
    | true =>
      rw [if_pos (.inl h1)] at hsc
      ((repeat refine WpM.seq ?_); have z_ex := (And.intro @k4 (And.intro @k5 (And.intro @setM.eq_1 (And.intro @h1 (And.intro @wrap_neg (And.intro @wrap_0sub True.intro)))))); refine WpM.regPE [] [(2, _), (3, _), (6, _), (8, _), (10, _), (17, _), (18, _), (19, _)] (by (refine s_o [(2, _)] rfl rfl rfl z_su rfl q_load z_fp z_ss ?_; refine s_o [(8, _)] rfl rfl rfl z_su rfl q_move z_fp z_ss ?_; refine s_o [(25, _)] rfl rfl rfl z_su rfl q_unOp z_fp z_ss ?_; refine s_o [(24, _), (26, _)] rfl rfl rfl z_su rfl q_lookup z_fp z_ss ?_; refine s_o [(27, _)] rfl rfl rfl z_su rfl q_move z_fp z_ss ?_; refine s_o [(23, _)] rfl rfl rfl z_su rfl q_extract z_fp z_ss ?_; refine s_o [(23, _)] rfl rfl rfl z_su rfl q_extract z_fp z_ss ?_; refine s_o [] rfl rfl rfl z_su rfl q_alloc z_fp z_ss ?_; refine s_o [(9, _), (28, _)] rfl rfl rfl z_su rfl q_store z_fp z_ss ?_; refine s_o [(29, _)] rfl rfl rfl z_su rfl q_move z_fp z_ss ?_; exact wpS_nil ⟨rfl, rfl⟩)) z_su ?_; clear z_ex)
      ((repeat refine WpM.seq ?_); have z_ex := True.intro; refine WpM.regPE [] [(2, _), (3, _), (6, _), (8, _), (17, _), (18, _), (19, _), (35, _)] (by (refine s_o [(10, _)] rfl rfl rfl z_su rfl q_move z_fp z_ss ?_; refine s_o [(30, _)] rfl rfl rfl z_su rfl q_move z_fp z_ss ?_; refine s_wit ?_; intro z_g; (first | refine s_skip rfl z_g z_fp ?_ | (refine s_o [(8, _)] rfl z_g rfl z_su rfl q_move z_fp z_ss ?_)); clear z_g; refine s_wit ?_; intro z_g; (first | refine s_skip rfl z_g z_fp ?_ | (refine s_o [(6, _)] rfl z_g rfl z_su rfl q_move z_fp z_ss ?_)); clear z_g; refine s_wit ?_; intro z_g; (first | refine s_skip rfl z_g z_fp ?_ | (refine s_o [(32, _), (33, _)] rfl z_g rfl z_su rfl q_full z_fp z_ss ?_)); clear z_g; refine s_o [(31, _), (34, _)] rfl rfl rfl z_su rfl q_move z_fp z_ss ?_; exact wpS_nil ⟨rfl, rfl⟩)) z_su ?_; clear z_ex)
      ((repeat refine WpM.seq ?_); refine WpM.condT (by (simp (maxSteps := 2000000) (disch := omega) [go_sem, -List.map_map])) ?_)
      (refine WpM.exit ?_; (repeat (with_reducible (first | refine thenM_exit ?_ | refine blockM_eq ?_ | refine blockM_ne (by decide) ?_))))
      ((repeat refine WpM.seq ?_); have z_ex := (And.intro @wrap_id True.intro); refine WpM.regPE [] [(2, _), (3, _), (6, _), (17, _), (18, _), (19, _)] (by (refine s_o [(19, _)] rfl rfl rfl z_su rfl q_full z_fp z_ss ?_; refine s_o [(39, _)] rfl rfl rfl z_su rfl q_move z_fp z_ss ?_; exact wpS_nil ⟨rfl, rfl⟩)) z_su ?_; clear z_ex)
      refine round_end (x' := j + 1) (le_cut (l' := []) hH (by (simp (maxSteps := 2000000) (disch := omega) [go_sem, -List.map_map]); omega) (Nat.le_refl _) (by simp)) (frLe_frOf (by (simp (maxSteps := 2000000) (disch := omega) [go_sem, -List.map_map, wrap_id]))) ⟨by omega, left, hsc, rfl, _, ?_, rfl⟩ (by omega)
      omega
    | false =>
      ((repeat refine WpM.seq ?_); have z_ex := (And.intro @k4 (And.intro @k5 (And.intro @setM.eq_1 (And.intro @h1 (And.intro @wrap_neg (And.intro @wrap_0sub True.intro)))))); refine WpM.regPE [] [(2, _), (3, _), (6, _), (8, _), (10, _), (17, _), (18, _), (19, _)] (by (refine s_o [(2, _)] rfl rfl rfl z_su rfl q_load z_fp z_ss ?_; refine s_o [(8, _)] rfl rfl rfl z_su rfl q_move z_fp z_ss ?_; refine s_o [(25, _)] rfl rfl rfl z_su rfl q_unOp z_fp z_ss ?_; refine s_o [(24, _), (26, _)] rfl rfl rfl z_su rfl q_lookup z_fp z_ss ?_; refine s_o [(27, _)] rfl rfl rfl z_su rfl q_move z_fp z_ss ?_; refine s_o [(23, _)] rfl rfl rfl z_su rfl q_extract z_fp z_ss ?_; refine s_o [(23, _)] rfl rfl rfl z_su rfl q_extract z_fp z_ss ?_; refine s_o [] rfl rfl rfl z_su rfl q_alloc z_fp z_ss ?_; refine s_o [(9, _), (28, _)] rfl rfl rfl z_su rfl q_store z_fp z_ss ?_; refine s_o [(29, _)] rfl rfl rfl z_su rfl q_move z_fp z_ss ?_; exact wpS_nil ⟨rfl, rfl⟩)) z_su ?_; clear z_ex)
      by_cases h2 : l = left
      · rw [if_pos (.inr h2)] at hsc
        ((repeat refine WpM.seq ?_); have z_ex := (And.intro @h2 True.intro); refine WpM.regPE [] [(2, _), (3, _), (6, _), (8, _), (17, _), (18, _), (19, _), (35, _)] (by (refine s_o [(10, _)] rfl rfl rfl z_su rfl q_move z_fp z_ss ?_; refine s_o [(30, _)] rfl rfl rfl z_su rfl q_move z_fp z_ss ?_; refine s_wit ?_; intro z_g; (first | refine s_skip rfl z_g z_fp ?_ | (refine s_o [(8, _)] rfl z_g rfl z_su rfl q_move z_fp z_ss ?_)); clear z_g; refine s_wit ?_; intro z_g; (first | refine s_skip rfl z_g z_fp ?_ | (refine s_o [(6, _)] rfl z_g rfl z_su rfl q_move z_fp z_ss ?_)); clear z_g; refine s_wit ?_; intro z_g; (first | refine s_skip rfl z_g z_fp ?_ | (refine s_o [(32, _), (33, _)] rfl z_g rfl z_su rfl q_full z_fp z_ss ?_)); clear z_g; refine s_o [(31, _), (34, _)] rfl rfl rfl z_su rfl q_move z_fp z_ss ?_; exact wpS_nil ⟨rfl, rfl⟩)) z_su ?_; clear z_ex)
        ((repeat refine WpM.seq ?_); refine WpM.condT (by (simp (maxSteps := 2000000) (disch := omega) [go_sem, -List.map_map, h2])) ?_)
        (refine WpM.exit ?_; (repeat (with_reducible (first | refine thenM_exit ?_ | refine blockM_eq ?_ | refine blockM_ne (by decide) ?_))))
        ((repeat refine WpM.seq ?_); have z_ex := (And.intro @wrap_id True.intro); refine WpM.regPE [] [(2, _), (3, _), (6, _), (17, _), (18, _), (19, _)] (by (refine s_o [(19, _)] rfl rfl rfl z_su rfl q_full z_fp z_ss ?_; refine s_o [(39, _)] rfl rfl rfl z_su rfl q_move z_fp z_ss ?_; exact wpS_nil ⟨rfl, rfl⟩)) z_su ?_; clear z_ex)
        refine round_end (x' := j + 1) (le_cut (l' := []) hH (by (simp (maxSteps := 2000000) (disch := omega) [go_sem, -List.map_map]); omega) (Nat.le_refl _) (by simp)) (frLe_frOf (by (simp (maxSteps := 2000000) (disch := omega) [go_sem, -List.map_map, wrap_id]))) ⟨by omega, left, hsc, rfl, _, ?_, rfl⟩ (by omega)
        omega
      · rw [if_neg (by simp [h1, h2])] at hsc
        ((repeat refine WpM.seq ?_); have z_ex := (And.intro @h2 True.intro); refine WpM.regPE [] [(2, _), (3, _), (6, _), (8, _), (17, _), (18, _), (19, _), (35, _)] (by (refine s_o [(10, _)] rfl rfl rfl z_su rfl q_move z_fp z_ss ?_; refine s_o [(30, _)] rfl rfl rfl z_su rfl q_move z_fp z_ss ?_; refine s_wit ?_; intro z_g; (first | refine s_skip rfl z_g z_fp ?_ | (refine s_o [(8, _)] rfl z_g rfl z_su rfl q_move z_fp z_ss ?_)); clear z_g; refine s_wit ?_; intro z_g; (first | refine s_skip rfl z_g z_fp ?_ | (refine s_o [(6, _)] rfl z_g rfl z_su rfl q_move z_fp z_ss ?_)); clear z_g; refine s_wit ?_; intro z_g; (first | refine s_skip rfl z_g z_fp ?_ | (refine s_o [(32, _), (33, _)] rfl z_g rfl z_su rfl q_full z_fp z_ss ?_)); clear z_g; refine s_o [(31, _), (34, _)] rfl rfl rfl z_su rfl q_move z_fp z_ss ?_; exact wpS_nil ⟨rfl, rfl⟩)) z_su ?_; clear z_ex)
        ((repeat refine WpM.seq ?_); refine WpM.condF (by (simp (maxSteps := 2000000) (disch := omega) [go_sem, -List.map_map, h2])) ?_)
        refine WpM.skip ?_
        by_cases h3 : left = 0
        · rw [if_neg (by simp [h3])] at hsc
          ((repeat refine WpM.seq ?_); have z_ex := (And.intro @h3 True.intro); refine WpM.regPE [] [(2, _), (3, _), (8, _), (17, _), (18, _), (19, _), (37, _)] (by (refine s_o [(6, _)] rfl rfl rfl z_su rfl q_move z_fp z_ss ?_; refine s_o [(36, _)] rfl rfl rfl z_su rfl q_full z_fp z_ss ?_; exact wpS_nil ⟨rfl, rfl⟩)) z_su ?_; clear z_ex)
          ((repeat refine WpM.seq ?_); refine WpM.condF (by (simp (maxSteps := 2000000) (disch := omega) [go_sem, -List.map_map, h3])) ?_)
          refine WpM.skip ?_
          ((repeat refine WpM.seq ?_); have z_ex := True.intro; refine WpM.regPE [] [(2, _), (3, _), (6, _), (17, _), (18, _), (19, _)] (by (refine s_o [(8, _)] rfl rfl rfl z_su rfl q_move z_fp z_ss ?_; refine s_o [(38, _)] rfl rfl rfl z_su rfl q_move z_fp z_ss ?_; exact wpS_nil ⟨rfl, rfl⟩)) z_su ?_; clear z_ex)
          ((repeat refine WpM.seq ?_); have z_ex := (And.intro @wrap_id True.intro); refine WpM.regPE [] [(2, _), (3, _), (6, _), (17, _), (18, _), (19, _)] (by (refine s_o [(19, _)] rfl rfl rfl z_su rfl q_full z_fp z_ss ?_; refine s_o [(39, _)] rfl rfl rfl z_su rfl q_move z_fp z_ss ?_; exact wpS_nil ⟨rfl, rfl⟩)) z_su ?_; clear z_ex)
          refine round_end (x' := j + 1) (le_cut (l' := []) hH (by (simp (maxSteps := 2000000) (disch := omega) [go_sem, -List.map_map]); omega) (Nat.le_refl _) (by simp)) (frLe_frOf (by (simp (maxSteps := 2000000) (disch := omega) [go_sem, -List.map_map, wrap_id]))) ⟨by omega, l, hsc, rfl, _, ?_, rfl⟩ (by omega)
          omega
        · ((repeat refine WpM.seq ?_); have z_ex := (And.intro @h3 True.intro); refine WpM.regPE [] [(2, _), (3, _), (8, _), (17, _), (18, _), (19, _), (37, _)] (by (refine s_o [(6, _)] rfl rfl rfl z_su rfl q_move z_fp z_ss ?_; refine s_o [(36, _)] rfl rfl rfl z_su rfl q_full z_fp z_ss ?_; exact wpS_nil ⟨rfl, rfl⟩)) z_su ?_; clear z_ex)
          ((repeat refine WpM.seq ?_); refine WpM.condT (by (simp (maxSteps := 2000000) (disch := omega) [go_sem, -List.map_map, h3])) ?_)
          ((repeat refine WpM.seq ?_); have z_ex := True.intro; refine WpM.regPE [] [(5, _)] (by (refine s_o [] rfl rfl rfl z_su rfl q_move z_fp z_ss ?_; exact wpS_nil ⟨rfl, rfl⟩)) z_su ?_; clear z_ex)
          (refine WpM.ret ?_; refine ⟨.inr rfl, Upd.done ?_⟩; (simp (maxSteps := 2000000) (disch := omega) [go_sem, -List.map_map, resV, resVs, resV1,]))
          omega
  · ((repeat refine WpM.seq ?_); refine WpM.condF (by (simp (maxSteps := 2000000) (disch := omega) [go_sem, -List.map_map, hlt])) ?_)
    have : c.drop j = [] := List.drop_eq_nil_of_le (by omega)
    rw [this] at hsc
    cases hsc
end Go.Proofs.Ytafeehlpmdligaa
