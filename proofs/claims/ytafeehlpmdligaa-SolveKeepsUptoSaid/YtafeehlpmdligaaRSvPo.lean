/- solve.Run, its answer in rows of its own. -/
import Derived.Test.YtafeehlpmdligaaROp
import Derived.Test.YtafeehlpmdligaaRCl
import Derived.Test.YtafeehlpmdligaaRSvP
namespace Go.Proofs.Ytafeehlpmdligaa
open Go.RowKit M
set_option linter.unusedSimpArgs false
set_option linter.unusedVariables false
theorem OwnR.le {lo lo' : Nat} {G : Nat → Option Blk} {ns : List Nat} {cs : List (List Int)} (h : OwnR lo G ns cs) (hl : lo' ≤ lo) : OwnR lo' G ns cs := ⟨h.nd, h.len, fun nm hm => Nat.le_trans hl (h.low nm hm), h.row⟩
/-- An answer whose rows are all one's own. -/
def OwnA (S : St) (a : AnsD) (r : V) (S' : St) : Prop :=
  ∃ m1 p1 ns, r = .tup [.agg [.d (.int .i64 a.code), .ms m1 1 0 a.model.length, .ms p1 1 0 a.proof.length, .d (.int .i64 a.steps)], .d (.int .i64 0)] ∧ S'.get m1 = some (.row 1 (a.model.map bl)) ∧ S'.get p1 = some (.row 1 (rowsV ns a.proof)) ∧
    OwnR S.next S'.get ns a.proof ∧ S.next ≤ m1 ∧ S.next ≤ p1 ∧ m1 ≠ p1 ∧ m1 ∉ ns ∧ p1 ∉ ns ∧ ∀ m k, S.get m = some k → S'.get m = some k
set_option maxHeartbeats 8000000 in
theorem run31o (n : Nat) (cs : List (List Int)) (budget : Nat) (hchk : checkF n cs = 0) (hbud : budget ≤ 20000) (hn : n ≤ 4096) (hmass : mass cs ≤ 10000000) (hcl : cs.length ≤ 131072) (hcs : ∀ c ∈ cs, c.length ≤ 128) (S : St) :
    CallM Try.prog 31 [.d (cnf n cs), .d (.int .i64 budget)] S (OwnA S (searchF n cs budget)) := by
  refine CallM.start (n := 98) Try.func31 rfl rfl (by simp) (by simp only [argL, Nat.reduceAdd] <;> rfl) ?_
  intro hH
  obtain ⟨H, hHe⟩ : ∃ H, H = S.get := ⟨_, rfl⟩
  obtain ⟨n0, hne⟩ : ∃ n0, n0 = S.next := ⟨_, rfl⟩
  rw [← hHe, ← hne] at hH ⊢
  have h32 := check32 n cs (by omega) (fun c hc => by have := hcs c hc; omega)
  rw [hchk] at h32
  have hb1 : ¬ (budget : Int) < 0 := by omega
  have hb2 : ¬ (20000 : Int) < budget := by omega
  ((repeat refine WpM.seq ?_); have z_ex := (And.intro @cnf.eq_1 True.intro); refine WpM.regPE [] [(1, _), (2, _), (4, _)] (by (refine s_o [(0, _)] rfl rfl rfl z_su rfl q_box z_fp z_ss ?_; refine s_o [] rfl rfl rfl z_su rfl q_alloc z_fp z_ss ?_; refine s_o [] rfl rfl rfl z_su rfl q_move z_fp z_ss ?_; exact wpS_nil ⟨rfl, rfl⟩)) z_su ?_; clear z_ex)
  ((repeat refine WpM.seq ?_); have z_ex := (And.intro @cnf.eq_1 True.intro); refine WpM.regPE [] [(1, _), (2, _), (4, _), (6, _)] (by (refine s_o [(2, _)] rfl rfl rfl z_su rfl q_load z_fp z_ss ?_; refine s_pure (callOf_eq rfl rfl rfl (mlk_tmp z_lk mlk_nil)) (h32) rfl rfl z_ip z_fp ?_; refine s_o [(14, _)] rfl rfl rfl z_su rfl q_move z_fp z_ss ?_; exact wpS_nil ⟨rfl, rfl⟩)) z_su ?_; clear z_ex)
  ((repeat refine WpM.seq ?_); have z_ex := True.intro; refine WpM.regPE [] [(1, _), (2, _), (4, _), (6, _), (16, _)] (by (refine s_o [(6, _)] rfl rfl rfl z_su rfl q_move z_fp z_ss ?_; refine s_o [(15, _)] rfl rfl rfl z_su rfl q_full z_fp z_ss ?_; exact wpS_nil ⟨rfl, rfl⟩)) z_su ?_; clear z_ex)
  ((repeat refine WpM.seq ?_); refine WpM.condF (by (simp (maxSteps := 2000000) (disch := omega) [go_sem, -List.map_map])) ?_)
  refine WpM.skip ?_
  ((repeat refine WpM.seq ?_); have z_ex := (And.intro @hb1 (And.intro @hb2 True.intro)); refine WpM.regPE [] [(1, _), (2, _), (4, _), (24, _)] (by (refine s_o [(1, _)] rfl rfl rfl z_su rfl q_move z_fp z_ss ?_; refine s_o [(19, _)] rfl rfl rfl z_su rfl q_full z_fp z_ss ?_; refine s_o [(20, _)] rfl rfl rfl z_su rfl q_move z_fp z_ss ?_; refine s_wit ?_; intro z_g; (first | refine s_skip rfl z_g z_fp ?_ | (refine s_o [(1, _)] rfl z_g rfl z_su rfl q_move z_fp z_ss ?_)); clear z_g; refine s_wit ?_; intro z_g; (first | refine s_skip rfl z_g z_fp ?_ | (refine s_o [(22, _)] rfl z_g rfl z_su rfl q_full z_fp z_ss ?_)); clear z_g; refine s_o [(21, _), (23, _)] rfl rfl rfl z_su rfl q_move z_fp z_ss ?_; exact wpS_nil ⟨rfl, rfl⟩)) z_su ?_; clear z_ex)
  ((repeat refine WpM.seq ?_); refine WpM.condF (by (simp (maxSteps := 2000000) (disch := omega) [go_sem, -List.map_map, hb2])) ?_)
  refine WpM.skip ?_
  ((repeat refine WpM.seq ?_); have z_ex := (And.intro @cnf.eq_1 (And.intro @wrap_id True.intro)); refine WpM.regPE [] [(1, _), (2, _), (4, _), (7, _)] (by (refine s_o [(2, _)] rfl rfl rfl z_su rfl q_fieldAddr z_fp z_ss ?_; refine s_o [(26, _)] rfl rfl rfl z_su rfl q_load z_fp z_ss ?_; refine s_o [(27, _)] rfl rfl rfl z_su rfl q_full z_fp z_ss ?_; refine s_o [(28, _)] rfl rfl rfl z_su rfl q_move z_fp z_ss ?_; exact wpS_nil ⟨rfl, rfl⟩)) z_su ?_; clear z_ex)
  ((repeat refine WpM.seq ?_); have z_ex := (And.intro @cnf.eq_1 True.intro); refine WpM.drwPE [] [(1, _), (2, _), (4, _), (8, _)] mixed (slots_of (by kernel_rfl)) (by kernel_rfl) [(1, 2), (1, 4), (2, 4), (1, 6), (2, 6), (4, 6), (1, 8), (2, 8), (4, 8), (6, 8)] (unord_of (by kernel_rfl)) (by (refine d_o [(2, _)] rfl rfl rfl z_su rfl q_fieldAddr z_fp z_ss rfl ?_; refine d_o [(29, _)] rfl rfl rfl z_su rfl q_load z_fp z_ss rfl ?_; refine d_o [] rfl rfl rfl z_su rfl q_makeMap z_fp z_ss rfl ?_; refine d_o [(7, _)] rfl rfl rfl z_su rfl q_move z_fp z_ss rfl ?_; refine d_o [(32, _)] rfl rfl rfl z_su rfl q_full z_fp z_ss rfl ?_; refine d_o [(7, _)] rfl rfl rfl z_su rfl q_move z_fp z_ss rfl ?_; refine d_o [(34, _)] rfl rfl rfl z_su rfl q_full z_fp z_ss rfl ?_; refine d_o [(7, _)] rfl rfl rfl z_su rfl q_move z_fp z_ss rfl ?_; refine d_o [(36, _)] rfl rfl rfl z_su rfl q_full z_fp z_ss rfl ?_; refine d_o [(30, _), (31, _), (33, _), (35, _), (37, _)] rfl rfl rfl z_su rfl q_build z_fp z_ss rfl ?_; refine d_o [(38, _)] rfl rfl rfl z_su rfl q_box z_fp z_ss rfl ?_; refine d_o [(39, _)] rfl rfl rfl z_su rfl q_move z_fp z_ss rfl ?_; exact d_end z_mt z_sn)) z_su ?_; clear z_ex)
  refine WpM.norm ?_
  intro nn G hnn hG hk
  have hnn : nn = n0 + 29 := hnn
  have f0 : G n0 = some (.box [.d (.int .i64 n), .d (cls cs)]) := by rw [hG]; (simp (maxSteps := 2000000) (disch := omega) [go_sem, -List.map_map])
  have f1 : G (n0 + 1) = some (.box [.d (.int .i64 0), .nil, .nil, .d (.int .i64 0)]) := by rw [hG]; (simp (maxSteps := 2000000) (disch := omega) [go_sem, -List.map_map])
  have fa : G (n0 + 19) = some (.map (.int .i64) fun _ => none) := by rw [hG]; (simp (maxSteps := 2000000) (disch := omega) [go_sem, -List.map_map])
  have fv : G (n0 + 21) = some (.row 1 (List.replicate (n + 1) (.d (.int .i8 0)))) := by rw [hG]; (simp (maxSteps := 2000000) (disch := omega) [go_sem, -List.map_map])
  have fr : G (n0 + 23) = some (.row 1 (List.replicate (n + 1) (.d (.int .i64 0)))) := by rw [hG]; (simp (maxSteps := 2000000) (disch := omega) [go_sem, -List.map_map])
  have fd : G (n0 + 25) = some (.row 1 (List.replicate (n + 1) (.d (.int .i64 0)))) := by rw [hG]; (simp (maxSteps := 2000000) (disch := omega) [go_sem, -List.map_map])
  have fs : G (n0 + 27) = some (.box [.d (.int .i64 n), .nil, .map (n0 + 19), .ms (n0 + 21) 1 0 (n + 1), .ms (n0 + 23) 1 0 (n + 1), .ms (n0 + 25) 1 0 (n + 1), .nil, .nil, .d (.int .i64 0), .nil]) := by rw [hG]; (simp (maxSteps := 2000000) (disch := omega) [go_sem, -List.map_map])
  have fH : ∀ m k, H m = some k → G m = some k := fun m k hk => by
    have := hH m k hk
    rw [hG]
    (simp (maxSteps := 2000000) (disch := omega) [go_sem, -List.map_map, hk])
  clear hG hk
  obtain ⟨sp, hsp⟩ : ∃ sp, sp = n0 + 27 := ⟨_, rfl⟩
  rw [← hsp] at fs
  refine Upd.wp (Upd.ghostIn sp 1 1 (by show G sp = _; exact fs) (.inl rfl) (Upd.ghostIn sp 6 1 (cs := [.d (.int .i64 n), .ms nn 1 0 0, .map (n0 + 19), .ms (n0 + 21) 1 0 (n + 1), .ms (n0 + 23) 1 0 (n + 1), .ms (n0 + 25) 1 0 (n + 1), .nil, .nil, .d (.int .i64 0), .nil]) (by (simp (maxSteps := 2000000) (disch := omega) [go_sem, -List.map_map])) (.inl rfl) (Upd.ghostIn sp 7 1 (cs := [.d (.int .i64 n), .ms nn 1 0 0, .map (n0 + 19), .ms (n0 + 21) 1 0 (n + 1), .ms (n0 + 23) 1 0 (n + 1), .ms (n0 + 25) 1 0 (n + 1), .ms (nn + 1) 1 0 0, .nil, .d (.int .i64 0), .nil]) (by (simp (maxSteps := 2000000) (disch := omega) [go_sem, -List.map_map])) (.inl rfl) (Upd.ghostIn sp 9 1 (cs := [.d (.int .i64 n), .ms nn 1 0 0, .map (n0 + 19), .ms (n0 + 21) 1 0 (n + 1), .ms (n0 + 23) 1 0 (n + 1), .ms (n0 + 25) 1 0 (n + 1), .ms (nn + 1) 1 0 0, .ms (nn + 2) 1 0 0, .d (.int .i64 0), .nil]) (by (simp (maxSteps := 2000000) (disch := omega) [go_sem, -List.map_map])) (.inl rfl) (Upd.done ?_)))))
  refine WpM.norm ?_
  intro nn2 G2 hnn2 hG2 hk2
  have hnn2 : nn2 = nn + 4 := hnn2
  have g0 : G2 n0 = some (.box [.d (.int .i64 n), .d (cls cs)]) := by rw [hG2]; (simp (maxSteps := 2000000) (disch := omega) [go_sem, -List.map_map, f0])
  have ga : G2 (n0 + 19) = some (.map (.int .i64) fun _ => none) := by rw [hG2]; (simp (maxSteps := 2000000) (disch := omega) [go_sem, -List.map_map, fa])
  have gv : G2 (n0 + 21) = some (.row 1 (List.replicate (n + 1) (.d (.int .i8 0)))) := by rw [hG2]; (simp (maxSteps := 2000000) (disch := omega) [go_sem, -List.map_map, fv])
  have gr : G2 (n0 + 23) = some (.row 1 (List.replicate (n + 1) (.d (.int .i64 0)))) := by rw [hG2]; (simp (maxSteps := 2000000) (disch := omega) [go_sem, -List.map_map, fr])
  have gd : G2 (n0 + 25) = some (.row 1 (List.replicate (n + 1) (.d (.int .i64 0)))) := by rw [hG2]; (simp (maxSteps := 2000000) (disch := omega) [go_sem, -List.map_map, fd])
  have gs : G2 sp = some (.box [.d (.int .i64 n), .ms nn 1 0 0, .map (n0 + 19), .ms (n0 + 21) 1 0 (n + 1), .ms (n0 + 23) 1 0 (n + 1), .ms (n0 + 25) 1 0 (n + 1), .ms (nn + 1) 1 0 0, .ms (nn + 2) 1 0 0, .d (.int .i64 0), .ms (nn + 3) 1 0 0]) := by rw [hG2]; (simp (maxSteps := 2000000) (disch := omega) [go_sem, -List.map_map])
  have gc : G2 nn = some (.row 1 []) := by rw [hG2]; (simp (maxSteps := 2000000) (disch := omega) [go_sem, -List.map_map])
  have gt : G2 (nn + 1) = some (.row 1 []) := by rw [hG2]; (simp (maxSteps := 2000000) (disch := omega) [go_sem, -List.map_map])
  have gl : G2 (nn + 2) = some (.row 1 []) := by rw [hG2]; (simp (maxSteps := 2000000) (disch := omega) [go_sem, -List.map_map])
  have gp : G2 (nn + 3) = some (.row 1 []) := by rw [hG2]; (simp (maxSteps := 2000000) (disch := omega) [go_sem, -List.map_map])
  have gk : ∀ m k, m < n0 + 19 → G m = some k → G2 m = some k := fun m k hm hk => by
    have h1 : m ≠ sp := by omega
    have h2 : m ≠ nn := by omega
    have h3 : m ≠ nn + 1 := by omega
    have h4 : m ≠ nn + 2 := by omega
    have h5 : m ≠ nn + 3 := by omega
    rw [hG2]
    (simp (maxSteps := 2000000) (disch := omega) [go_sem, -List.map_map, h1, h2, h3, h4, h5, hk])
  clear hG2 hk2
  obtain ⟨H0, hH0⟩ : ∃ H0 : Nat → Option Blk, H0 = fun m => if m < n0 + 19 then G m else none := ⟨_, rfl⟩
  have hE0 : SvS H0 sp (Sv.start n []) G2 := by
    refine ⟨n0 + 19, n0 + 21, n0 + 23, n0 + 25, nn, nn + 1, nn + 2, nn + 3, fun _ => none, fun _ => 0, [], [], ?_⟩
    refine ⟨fun m k hm => ?_, by omega, by omega, by omega, by omega, by omega, by omega, by omega, by omega, by omega, by omega, by omega, by omega, by omega, by omega, gs, ?_, ?_, ?_, gc, gt, gl, gp, ⟨ga, fun _ _ => rfl, fun l hl => absurd rfl hl, fun l l' hl => absurd rfl hl⟩, fun l hl => absurd rfl hl⟩
    · rw [hH0] at hm
      simp only at hm
      by_cases hlt : m < n0 + 19
      · rw [if_pos hlt] at hm
        exact ⟨hlt, gk m k hlt hm⟩
      · rw [if_neg hlt] at hm; cases hm
    · rw [gv]; show _ = some (Blk.row 1 ((List.replicate (n + 1) (0 : Int)).map i8)); rw [List.map_replicate]; rfl
    · rw [gr]; show _ = some (Blk.row 1 ((List.replicate (n + 1) 0).map nlit)); rw [List.map_replicate]; rfl
    · rw [gd]; show _ = some (Blk.row 1 ((List.replicate (n + 1) 0).map nlit)); rw [List.map_replicate]; rfl
  have hn0 : H0 (n0 + 1) = some (.box [.d (.int .i64 0), .nil, .nil, .d (.int .i64 0)]) := by rw [hH0]; simp only; rw [if_pos (by omega)]; exact f1
  have hHH : ∀ m k, H m = some k → H0 m = some k := fun m k hk => by
    have := hH m k hk
    rw [hH0]; simp only; rw [if_pos (by omega)]; exact fH m k hk
  clear fa fv fr fd fs ga gv gr gd gs gc gt gl gp gk f0 f1 fH hH0
  obtain ⟨bx, hbx⟩ : ∃ bx, bx = n0 + 1 := ⟨_, rfl⟩
  rw [← hbx] at hn0
  have hlits := ok_lits hchk
  ((repeat refine WpM.seq ?_); have z_ex := (And.intro @cnf.eq_1 (And.intro @cls.eq_1 (And.intro @g0 True.intro))); refine WpM.regPE [] [(1, _), (4, _), (8, _), (41, _), (42, _), (43, _)] (by (refine s_o [(2, _)] rfl rfl rfl z_su rfl q_fieldAddr z_fp z_ss ?_; refine s_o [(40, _)] rfl rfl rfl z_su rfl q_load z_fp z_ss ?_; refine s_o [(41, _)] rfl rfl rfl z_su rfl q_full z_fp z_ss ?_; refine s_o [] rfl rfl rfl z_su rfl q_move z_fp z_ss ?_; exact wpS_nil ⟨rfl, rfl⟩)) z_su ?_; clear z_ex)
  have hspe : n0 + 17 + 10 = sp := by omega
  rw [hspe]
  ((repeat refine WpM.seq ?_); refine WpM.block ?_)
  refine WpM.loop (fun (j : Nat) fr S => j ≤ cs.length ∧ (∃ nx G, S = ⟨nx, [], G⟩ ∧ SvS H0 sp (Sv.start n (cs.take j)) G) ∧ fr = frOf [(1, .d (.int .i64 budget)), (4, .ptr bx 0), (8, .ptr sp 0), (41, .d (.sl (cs.map ints))), (42, .d (.int .i64 cs.length)), (43, .d (.int .i64 j))]) (fun j => cs.length - j) 0 (St.Le.norm _) (by rw [hbx]; exact Sub.le z_su) ⟨by omega, ⟨_, G2, rfl, hE0⟩, rfl⟩ ?_
  clear hE0 g0
  rintro j fr S' ⟨hj, ⟨nx, G, rfl, hE⟩, rfl⟩
  ((repeat refine WpM.seq ?_); have z_ex := True.intro; refine WpM.regPE [] [(1, _), (4, _), (8, _), (41, _), (42, _), (43, _), (44, _)] (by (refine s_o [(42, _), (43, _)] rfl rfl rfl z_su rfl q_full z_fp z_ss ?_; exact wpS_nil ⟨rfl, rfl⟩)) z_su ?_; clear z_ex)
  by_cases hlt : j < cs.length
  · ((repeat refine WpM.seq ?_); refine WpM.condT (by (simp (maxSteps := 2000000) (disch := omega) [go_sem, -List.map_map, hlt])) ?_)
    refine WpM.skip ?_
    ((repeat refine WpM.seq ?_); refine WpM.block ?_)
    obtain ⟨c, hce⟩ : ∃ c, c = cs[j] := ⟨_, rfl⟩
    have q5 : (cs.map ints)[j]? = some (ints c) := by rw [hce]; simp [hlt]
    have hcm : c ∈ cs := by rw [hce]; exact List.getElem_mem _
    have hcl2 := hcs c hcm
    ((repeat refine WpM.seq ?_); have z_ex := (And.intro @q5 (And.intro @hlt True.intro)); refine WpM.regPE [] [(1, _), (4, _), (8, _), (10, _), (41, _), (42, _), (43, _)] (by (refine s_o [(41, _), (43, _)] rfl rfl rfl z_su rfl q_full z_fp z_ss ?_; refine s_o [(45, _)] rfl rfl rfl z_su rfl q_load z_fp z_ss ?_; refine s_o [(46, _)] rfl rfl rfl z_su rfl q_move z_fp z_ss ?_; exact wpS_nil ⟨rfl, rfl⟩)) z_su ?_; clear z_ex)
    have htk : cs.take (j + 1) = cs.take j ++ [c] := by rw [hce]; exact List.take_succ_eq_append_getElem hlt
    have hms : mass (cs.take j) ≤ mass cs := by
      conv => rhs; rw [← List.take_append_drop j cs]
      rw [mass_append]; omega
    have hadd := fun n' => add52 H0 sp (Sv.start n (cs.take j)) c ⟨n', [], G⟩ hE (by show mass (cs.take j) + _ ≤ _; omega) (fun l hl => by have := hlits c hcm l hl; omega)
    ((repeat refine WpM.seq ?_); have z_ex := True.intro; refine WpM.regP [] ?_; intro K hK; refine s_o [(8, _)] rfl rfl rfl z_su rfl q_move z_fp z_ss ?_; refine s_o [(10, _)] rfl rfl rfl z_su rfl q_move z_fp z_ss ?_; refine s_pure (callOf_eq rfl rfl rfl (mlk_tmp z_lk mlk_nil)) (clone50 c (by omega)) rfl rfl z_ip z_fp ?_; refine s_call (callOf_eq rfl rfl rfl (mlk_tmp z_lk (mlk_tmp z_lk mlk_nil))) (hadd _) rfl rfl z_ip ?_; rintro _ z_S ⟨rfl, hS⟩; refine s_put z_fp ?_; refine s_endE [(1, _), (4, _), (8, _), (41, _), (42, _), (43, _)] hK z_su ?_; clear hK K; clear z_ex)
    refine WpM.norm ?_
    intro nn3 G3 hnn3 hG3 hk3
    have hG3 : G3 = z_S.get := hG3
    rw [← hG3] at hS
    clear hG3 hk3 hnn3
    ((repeat refine WpM.seq ?_); have z_ex := (And.intro @wrap_id True.intro); refine WpM.regPE [] [(1, _), (4, _), (8, _), (41, _), (42, _), (43, _)] (by (refine s_o [(43, _)] rfl rfl rfl z_su rfl q_full z_fp z_ss ?_; refine s_o [(51, _)] rfl rfl rfl z_su rfl q_move z_fp z_ss ?_; exact wpS_nil ⟨rfl, rfl⟩)) z_su ?_; clear z_ex)
    exact round_end (x' := j + 1) (St.Le.refl _) (Sub.le z_su) ⟨by omega, ⟨_, G3, rfl, by rw [htk]; exact hS⟩, rfl⟩ (by omega)
  · ((repeat refine WpM.seq ?_); refine WpM.condF (by (simp (maxSteps := 2000000) (disch := omega) [go_sem, -List.map_map, hlt])) ?_)
    (refine WpM.exit ?_; (repeat (with_reducible (first | refine thenM_exit ?_ | refine blockM_eq ?_ | refine blockM_ne (by decide) ?_))))
    obtain rfl : j = cs.length := by omega
    rw [List.take_length] at hE
    ((repeat refine WpM.seq ?_); have z_ex := True.intro; refine WpM.regPE [] [(1, _), (4, _), (8, _), (11, _)] (by (refine s_o [] rfl rfl rfl z_su rfl q_move z_fp z_ss ?_; exact wpS_nil ⟨rfl, rfl⟩)) z_su ?_; clear z_ex)
    have hsm0 : Small (Sv.start n cs) := by
      refine ⟨hn, by show cs.length ≤ _; omega, fun m => ?_, by show mass cs ≤ _; omega, by show 0 ≤ _; omega⟩
      show (cs.getD m []).length ≤ _
      by_cases hmm : m < cs.length
      · have := hcs _ (getD_mem (d := []) hmm); omega
      · rw [List.getD_eq_getElem?_getD, List.getElem?_eq_none (by omega)]; simp
    have hbeg := fun n' => SvS.begin H0 sp (Sv.start n cs) ⟨n', [], G⟩ hE (start_wf hlits) rfl hsm0
    ((repeat refine WpM.seq ?_); have z_ex := True.intro; refine WpM.regP [] ?_; intro K hK; refine s_o [(8, _)] rfl rfl rfl z_su rfl q_move z_fp z_ss ?_; refine s_call (callOf_eq rfl rfl rfl (mlk_tmp z_lk mlk_nil)) (hbeg _) rfl rfl z_ip ?_; rintro _ z_S ⟨rfl, hS⟩; refine s_put z_fp ?_; refine s_o [(53, _)] rfl rfl rfl z_su rfl q_move z_fp z_ss ?_; refine s_endE [(1, _), (4, _), (8, _), (11, _), (12, _)] hK z_su ?_; clear hK K; clear z_ex)
    refine WpM.norm ?_
    intro nn3 G3 hnn3 hG3 hk3
    have hG3 : G3 = z_S.get := hG3
    rw [← hG3] at hS
    clear hG3 hk3 hnn3
    obtain ⟨hrun0, hright⟩ := search_right hlits budget
    obtain ⟨hsr0, hsn0⟩ := begin_srch hlits
    obtain ⟨ans, hans⟩ : ∃ ans, ans = searchF n cs budget := ⟨_, rfl⟩
    rw [← hans] at hrun0 hright ⊢
    clear hans
    ((repeat refine WpM.seq ?_); refine WpM.block ?_)
    refine WpM.loop (fun (x : (Nat × Sv) × Option Nat × Nat) fr S => runS budget x.1.1 x.1.2 x.2.1 x.2.2 = some ans ∧ Srch cs x.1.2 x.2.1 x.2.2 ∧ x.1.2.n = n ∧ x.2.2 + x.1.1 = budget + 1 ∧ x.2.2 ≤ budget ∧ (∃ nx G, S = ⟨nx, [], G⟩ ∧ SvS H0 sp x.1.2 G) ∧ fr = frOf [(1, .d (.int .i64 budget)), (4, .ptr bx 0), (8, .ptr sp 0), (11, .d (.int .i64 x.2.2)), (12, .d (.int .i64 (wI x.2.1)))]) (fun x => x.1.1) ((budget + 1, (Sv.start n cs).begin.1), (Sv.start n cs).begin.2, 0) (St.Le.refl _) (Sub.le z_su) ⟨hrun0, hsr0, hsn0, by simp only; omega, by simp only; omega, ⟨_, G3, rfl, hS⟩, rfl⟩ ?_
    clear hE hS hrun0 hsr0 hsn0
    rintro ⟨⟨k, s⟩, w, steps⟩ fr S' ⟨hrun, hsr, hsn, hk, hst, ⟨nx, G, rfl, hE⟩, rfl⟩
    simp only at hrun hsr hsn hk hst hE
    obtain ⟨hsm, hlg⟩ := hsr.small hsn hn (by omega) (fun c hc => by have := hcs c hc; omega) hmass (by omega)
    have hw := hsr.wf
    ((repeat refine WpM.seq ?_); refine WpM.block ?_)
    have hSv := hE
    obtain ⟨na, nv, nr, nd, nc, nt, nl, np, am, nx1, et, el, hE⟩ := hE
    have k1 := hE.box
    have k2 := hE.rv
    have vl := hw.vlen
    obtain ⟨und, hund⟩ : ∃ und : Bool, und = decide (steps = budget ∧ (w.isSome = true ∨ (0 : Int) ∈ s.val.drop 1)) := ⟨_, rfl⟩
    have hcon := fun n' => contains55 nv s.val 0 1 n ⟨n', [], G⟩ k2 (by omega) (by omega)
    (repeat refine WpM.seq ?_)
    refine WpM.meet (frOf [(1, .d (.int .i64 budget)), (4, .ptr bx 0), (8, .ptr sp 0), (11, .d (.int .i64 steps)), (12, .d (.int .i64 (wI w))), (70, .d (.bool und))]) ⟨nx + 40, [], G⟩ ?_ ?_
    · by_cases hsb : steps = budget
      · cases w with
        | some m =>
          have hu : und = true := by rw [hund]; simp [hsb]
          have hsb' : (steps : Int) = budget := by omega
          have hm0 : (0 : Int) ≤ wI (some m) := by simp [wI]
          rw [hu]
          ((repeat refine WpM.seq ?_); have z_ex := (And.intro @hsb' (And.intro @hm0 True.intro)); refine WpM.regPE [] [(1, _), (4, _), (8, _), (11, _), (12, _), (70, _)] (by (refine s_o [(11, _)] rfl rfl rfl z_su rfl q_move z_fp z_ss ?_; refine s_o [(1, _)] rfl rfl rfl z_su rfl q_move z_fp z_ss ?_; refine s_o [(56, _), (57, _)] rfl rfl rfl z_su rfl q_full z_fp z_ss ?_; refine s_o [(58, _)] rfl rfl rfl z_su rfl q_move z_fp z_ss ?_; refine s_wit ?_; intro z_g; (first | refine s_skip rfl z_g z_fp ?_ | (refine s_o [(12, _)] rfl z_g rfl z_su rfl q_move z_fp z_ss ?_)); clear z_g; refine s_wit ?_; intro z_g; (first | refine s_skip rfl z_g z_fp ?_ | (refine s_o [(60, _)] rfl z_g rfl z_su rfl q_full z_fp z_ss ?_)); clear z_g; refine s_wit ?_; intro z_g; (first | refine s_skip rfl z_g z_fp ?_ | (refine s_o [(61, _)] rfl z_g rfl z_su rfl q_move z_fp z_ss ?_)); clear z_g; refine s_wit ?_; intro z_g; (first | refine s_skip rfl z_g z_fp ?_ | (refine s_o [(8, _)] rfl z_g rfl z_su rfl q_move z_fp z_ss ?_)); clear z_g; refine s_wit ?_; intro z_g; (first | refine s_skip rfl z_g z_fp ?_ | (refine s_o [(63, _)] rfl z_g rfl z_su rfl q_move z_fp z_ss ?_)); clear z_g; refine s_wit ?_; intro z_g; (first | refine s_skip rfl z_g z_fp ?_ | (refine s_o [(64, _)] rfl z_g rfl z_su rfl q_fieldAddr z_fp z_ss ?_)); clear z_g; refine s_wit ?_; intro z_g; (first | refine s_skip rfl z_g z_fp ?_ | (refine s_o [(65, _)] rfl z_g rfl z_su rfl q_load z_fp z_ss ?_)); clear z_g; refine s_wit ?_; intro z_g; (first | refine s_skip rfl z_g z_fp ?_ | (refine s_o [(66, _)] rfl z_g rfl z_su rfl q_full z_fp z_ss ?_)); clear z_g; refine s_wit ?_; intro z_g; (first | refine s_skip rfl z_g z_fp ?_ | (refine s_pure (callOf_eq rfl rfl rfl (mlk_tmp z_lk (mlk_const rfl mlk_nil))) (?missing) rfl z_g z_ip z_fp ?_)); clear z_g; refine s_wit ?_; intro z_g; (first | refine s_skip rfl z_g z_fp ?_ | (refine s_o [(62, _), (68, _)] rfl z_g rfl z_su rfl q_move z_fp z_ss ?_)); clear z_g; refine s_o [(59, _), (69, _)] rfl rfl rfl z_su rfl q_move z_fp z_ss ?_; exact wpS_nil ⟨rfl, rfl⟩)) z_su ?_; clear z_ex)
          exact ⟨rfl, Sub.le z_su, by show _ ≤ nx + 40; simp, fun m k h => h⟩
        | none =>
          have hu : und = decide ((0 : Int) ∈ s.val.drop 1) := by rw [hund]; simp [hsb]
          have hsb' : (steps : Int) = budget := by omega
          rw [hu]
          ((repeat refine WpM.seq ?_); have z_ex := (And.intro @hsb' (And.intro @wI.eq_1 (And.intro @k1 (And.intro @svBox.eq_1 (And.intro @hsn True.intro))))); refine WpM.regPE [] [(1, _), (4, _), (8, _), (11, _), (12, _), (70, _)] (by (refine s_o [(11, _)] rfl rfl rfl z_su rfl q_move z_fp z_ss ?_; refine s_o [(1, _)] rfl rfl rfl z_su rfl q_move z_fp z_ss ?_; refine s_o [(56, _), (57, _)] rfl rfl rfl z_su rfl q_full z_fp z_ss ?_; refine s_o [(58, _)] rfl rfl rfl z_su rfl q_move z_fp z_ss ?_; refine s_wit ?_; intro z_g; (first | refine s_skip rfl z_g z_fp ?_ | (refine s_o [(12, _)] rfl z_g rfl z_su rfl q_move z_fp z_ss ?_)); clear z_g; refine s_wit ?_; intro z_g; (first | refine s_skip rfl z_g z_fp ?_ | (refine s_o [(60, _)] rfl z_g rfl z_su rfl q_full z_fp z_ss ?_)); clear z_g; refine s_wit ?_; intro z_g; (first | refine s_skip rfl z_g z_fp ?_ | (refine s_o [(61, _)] rfl z_g rfl z_su rfl q_move z_fp z_ss ?_)); clear z_g; refine s_wit ?_; intro z_g; (first | refine s_skip rfl z_g z_fp ?_ | (refine s_o [(8, _)] rfl z_g rfl z_su rfl q_move z_fp z_ss ?_)); clear z_g; refine s_wit ?_; intro z_g; (first | refine s_skip rfl z_g z_fp ?_ | (refine s_o [(63, _)] rfl z_g rfl z_su rfl q_move z_fp z_ss ?_)); clear z_g; refine s_wit ?_; intro z_g; (first | refine s_skip rfl z_g z_fp ?_ | (refine s_o [(64, _)] rfl z_g rfl z_su rfl q_fieldAddr z_fp z_ss ?_)); clear z_g; refine s_wit ?_; intro z_g; (first | refine s_skip rfl z_g z_fp ?_ | (refine s_o [(65, _)] rfl z_g rfl z_su rfl q_load z_fp z_ss ?_)); clear z_g; refine s_wit ?_; intro z_g; (first | refine s_skip rfl z_g z_fp ?_ | (refine s_o [(66, _)] rfl z_g rfl z_su rfl q_full z_fp z_ss ?_)); clear z_g; refine s_wit ?_; intro z_g; (first | refine s_skip rfl z_g z_fp ?_ | (refine s_at (callOf_eq rfl rfl rfl (mlk_tmp z_lk (mlk_const rfl mlk_nil))) ((hcon _)) rfl z_g z_ip z_fp ?_)); clear z_g; refine s_wit ?_; intro z_g; (first | refine s_skip rfl z_g z_fp ?_ | (refine s_o [(62, _), (68, _)] rfl z_g rfl z_su rfl q_move z_fp z_ss ?_)); clear z_g; refine s_o [(59, _), (69, _)] rfl rfl rfl z_su rfl q_move z_fp z_ss ?_; exact wpS_nil ⟨rfl, rfl⟩)) z_su ?_; clear z_ex)
          exact ⟨rfl, Sub.le z_su, by show _ ≤ nx + 40; simp, fun m k h => h⟩
      · have hu : und = false := by rw [hund]; simp [hsb]
        have hsb' : ¬ (steps : Int) = budget := by omega
        rw [hu]
        ((repeat refine WpM.seq ?_); have z_ex := (And.intro @hsb' True.intro); refine WpM.regPE [] [(1, _), (4, _), (8, _), (11, _), (12, _), (70, _)] (by (refine s_o [(11, _)] rfl rfl rfl z_su rfl q_move z_fp z_ss ?_; refine s_o [(1, _)] rfl rfl rfl z_su rfl q_move z_fp z_ss ?_; refine s_o [(56, _), (57, _)] rfl rfl rfl z_su rfl q_full z_fp z_ss ?_; refine s_o [(58, _)] rfl rfl rfl z_su rfl q_move z_fp z_ss ?_; refine s_wit ?_; intro z_g; (first | refine s_skip rfl z_g z_fp ?_ | (refine s_o [(12, _)] rfl z_g rfl z_su rfl q_move z_fp z_ss ?_)); clear z_g; refine s_wit ?_; intro z_g; (first | refine s_skip rfl z_g z_fp ?_ | (refine s_o [(60, _)] rfl z_g rfl z_su rfl q_full z_fp z_ss ?_)); clear z_g; refine s_wit ?_; intro z_g; (first | refine s_skip rfl z_g z_fp ?_ | (refine s_o [(61, _)] rfl z_g rfl z_su rfl q_move z_fp z_ss ?_)); clear z_g; refine s_wit ?_; intro z_g; (first | refine s_skip rfl z_g z_fp ?_ | (refine s_o [(8, _)] rfl z_g rfl z_su rfl q_move z_fp z_ss ?_)); clear z_g; refine s_wit ?_; intro z_g; (first | refine s_skip rfl z_g z_fp ?_ | (refine s_o [(63, _)] rfl z_g rfl z_su rfl q_move z_fp z_ss ?_)); clear z_g; refine s_wit ?_; intro z_g; (first | refine s_skip rfl z_g z_fp ?_ | (refine s_o [(64, _)] rfl z_g rfl z_su rfl q_fieldAddr z_fp z_ss ?_)); clear z_g; refine s_wit ?_; intro z_g; (first | refine s_skip rfl z_g z_fp ?_ | (refine s_o [(65, _)] rfl z_g rfl z_su rfl q_load z_fp z_ss ?_)); clear z_g; refine s_wit ?_; intro z_g; (first | refine s_skip rfl z_g z_fp ?_ | (refine s_o [(66, _)] rfl z_g rfl z_su rfl q_full z_fp z_ss ?_)); clear z_g; refine s_wit ?_; intro z_g; (first | refine s_skip rfl z_g z_fp ?_ | (refine s_pure (callOf_eq rfl rfl rfl (mlk_tmp z_lk (mlk_const rfl mlk_nil))) (?missing) rfl z_g z_ip z_fp ?_)); clear z_g; refine s_wit ?_; intro z_g; (first | refine s_skip rfl z_g z_fp ?_ | (refine s_o [(62, _), (68, _)] rfl z_g rfl z_su rfl q_move z_fp z_ss ?_)); clear z_g; refine s_o [(59, _), (69, _)] rfl rfl rfl z_su rfl q_move z_fp z_ss ?_; exact wpS_nil ⟨rfl, rfl⟩)) z_su ?_; clear z_ex)
        exact ⟨rfl, Sub.le z_su, by show _ ≤ nx + 40; simp, fun m k h => h⟩
    intro fr' S' hf hS
    refine WpM.less hS hf ?_
    clear hf hS fr' S'
    have hold : ∀ m k, m < n0 → H m = some k → m ≠ bx ∧ G m = some k := fun m k hm hk => ⟨by omega, (hE.keep _ _ (hHH _ _ hk)).2⟩
    have gb := (hE.keep _ _ hn0).2
    have hbo := (hE.keep _ _ hn0).1
    have ho1 := hE.o1; have ho2 := hE.o2; have ho3 := hE.o3; have ho4 := hE.o4
    obtain ⟨k', hk'⟩ : ∃ k', k = k' + 1 := ⟨k - 1, by omega⟩
    rw [hk', runS] at hrun
    cases hudv : und with
    | true =>
      rw [hudv] at hund
      have hu2 := of_decide_eq_true hund.symm
      have hans : ans = ⟨3, [], [], steps⟩ := by
        unfold turnS at hrun
        rw [if_pos hu2] at hrun
        injection hrun with hrun
        exact hrun.symm
      ((repeat refine WpM.seq ?_); refine WpM.condT (by (simp (maxSteps := 2000000) (disch := omega) [go_sem, -List.map_map])) ?_)
      ((repeat refine WpM.seq ?_); have z_ex := (And.intro @gb True.intro); refine WpM.regPE [] [(4, _), (5, _)] (by (refine s_o [(11, _)] rfl rfl rfl z_su rfl q_move z_fp z_ss ?_; refine s_o [(71, _)] rfl rfl rfl z_su rfl q_build z_fp z_ss ?_; refine s_o [(4, _), (72, _)] rfl rfl rfl z_su rfl q_store z_fp z_ss ?_; refine s_o [] rfl rfl rfl z_su rfl q_move z_fp z_ss ?_; exact wpS_nil ⟨rfl, rfl⟩)) z_su ?_; clear z_ex)
      refine WpM.norm ?_
      intro N G4 hN hG4 hk4
      have hN : nx + 44 = N := hN.symm
      have gb4 : G4 bx = some (.box [.d (.int .i64 3), .nil, .nil, .d (.int .i64 steps)]) := by rw [hG4]; (simp (maxSteps := 2000000) (disch := omega) [go_sem, -List.map_map, gb])
      have hold4 : ∀ m k, m < n0 → H m = some k → m ≠ bx ∧ G4 m = some k := fun m k hm hk => by
        obtain ⟨h1, h2⟩ := hold m k hm hk
        refine ⟨h1, ?_⟩
        rw [hG4]; (simp (maxSteps := 2000000) (disch := omega) [go_sem, -List.map_map, h1, h2])
      clear hG4
      have hbN := hk4 _ _ gb4
      rw [hans]
      refine WpM.ret ?_
      refine ⟨.inr rfl, Upd.ghostIn bx 1 1 (cs := [.d (.int .i64 3), .nil, .nil, .d (.int .i64 steps)]) (by (simp (maxSteps := 2000000) (disch := omega) [go_sem, -List.map_map, gb4])) (.inl rfl) (Upd.ghostIn bx 2 1 (cs := [.d (.int .i64 3), .ms N 1 0 0, .nil, .d (.int .i64 steps)]) (by (simp (maxSteps := 2000000) (disch := omega) [go_sem, -List.map_map, gb4])) (.inl rfl) (Upd.done ⟨_, (by (simp (maxSteps := 2000000) (disch := omega) [go_sem, -List.map_map, resV, resVs, resV1])), N, N + 1, [], rfl, (by (simp (maxSteps := 2000000) (disch := omega) [go_sem, -List.map_map, bl])), (by (simp (maxSteps := 2000000) (disch := omega) [go_sem, -List.map_map, rowsV])), OwnR.zero, (by omega), (by omega), (by omega), (by simp), (by simp), fun m k hk => ?_⟩))⟩
      have hk : H m = some k := by rw [hHe]; exact hk
      have hm := hH m k hk
      obtain ⟨h1, h2⟩ := hold4 m k hm hk
      have := hk4 _ _ h2
      (simp (maxSteps := 2000000) (disch := omega) [go_sem, -List.map_map, h1, h2])
    | false =>
      rw [hudv] at hund
      have hu2 := of_decide_eq_false hund.symm
      unfold turnS at hrun
      rw [if_neg hu2] at hrun
      ((repeat refine WpM.seq ?_); refine WpM.condF (by (simp (maxSteps := 2000000) (disch := omega) [go_sem, -List.map_map])) ?_)
      refine WpM.skip ?_
      ((repeat refine WpM.seq ?_); refine WpM.block ?_)
      cases w with
      | some m =>
        simp only at hrun
        have hm0 : (0 : Int) ≤ wI (some m) := by simp [wI]
        have hcf := hsr.now.1
        have hw1 : wI (some m) = (m : Int) := rfl
        ((repeat refine WpM.seq ?_); have z_ex := (And.intro @hm0 True.intro); refine WpM.regPE [] [(1, _), (4, _), (8, _), (11, _), (12, _), (77, _)] (by (refine s_o [(12, _)] rfl rfl rfl z_su rfl q_move z_fp z_ss ?_; refine s_o [(78, _)] rfl rfl rfl z_su rfl q_full z_fp z_ss ?_; refine s_o [(79, _)] rfl rfl rfl z_su rfl q_move z_fp z_ss ?_; exact wpS_nil ⟨rfl, rfl⟩)) z_su ?_; clear z_ex)
        ((repeat refine WpM.seq ?_); refine WpM.condT (by (simp (maxSteps := 2000000) (disch := omega) [go_sem, -List.map_map])) ?_)
        ((repeat refine WpM.seq ?_); have z_ex := (And.intro @wrap_id True.intro); refine WpM.regPE [] [(1, _), (4, _), (8, _), (11, _), (12, _)] (by (refine s_o [(11, _)] rfl rfl rfl z_su rfl q_move z_fp z_ss ?_; refine s_o [(80, _)] rfl rfl rfl z_su rfl q_full z_fp z_ss ?_; refine s_o [(81, _)] rfl rfl rfl z_su rfl q_move z_fp z_ss ?_; exact wpS_nil ⟨rfl, rfl⟩)) z_su ?_; clear z_ex)
        rw [hw1]
        have hlearn := fun n' => learn56 H0 sp s ⟨n', [], G⟩ hSv hw hsm m hcf (by omega)
        cases hle : (s.learn m).1 with
        | true =>
          simp only [hle, if_true] at hlearn hrun
          obtain ⟨x, r, hbl⟩ := learn_true hle
          obtain ⟨w2, cur2, sr2⟩ := hsr.learn3 hbl
          have n2 := learn_n s m
          have hlt : steps < budget := by
            rcases Nat.lt_or_ge steps budget with h1 | h1
            · exact h1
            · exact absurd ⟨by omega, .inl rfl⟩ hu2
          ((repeat refine WpM.seq ?_); have z_ex := True.intro; refine WpM.regP [] ?_; intro K hK; refine s_o [(8, _)] rfl rfl rfl z_su rfl q_move z_fp z_ss ?_; refine s_o [(12, _)] rfl rfl rfl z_su rfl q_move z_fp z_ss ?_; refine s_call (callOf_eq rfl rfl rfl (mlk_tmp z_lk (mlk_tmp z_lk mlk_nil))) (hlearn _) rfl rfl z_ip ?_; rintro _ z_S ⟨rfl, hS⟩; refine s_put z_fp ?_; refine s_o [(84, _)] rfl rfl rfl z_su rfl q_unOp z_fp z_ss ?_; refine s_endE [(1, _), (4, _), (8, _), (11, _), (85, _)] hK z_su ?_; clear hK K; clear z_ex)
          ((repeat refine WpM.seq ?_); refine WpM.condF (by (simp (maxSteps := 2000000) (disch := omega) [go_sem, -List.map_map])) ?_)
          refine WpM.skip ?_
          refine WpM.norm ?_
          intro nn3 G3 hnn3 hG3 hk3
          have hG3 : G3 = z_S.get := hG3
          rw [← hG3] at hS
          clear hG3 hk3 hnn3
          obtain ⟨s2, hs2⟩ : ∃ s2, s2 = (s.learn m).2 := ⟨_, rfl⟩
          rw [← hs2] at hS w2 cur2 sr2 hrun n2
          have hsm2 : Small s2 := Small.back (follow_spec w2 cur2).2.2.1 (sr2.small (by rw [follow_n']; omega) hn (by omega) (fun c hc => by have := hcs c hc; omega) hmass (by omega)).1
          have hfo := fun n' => SvS.follow H0 sp s2 ⟨n', [], G3⟩ hS w2 cur2 hsm2
          ((repeat refine WpM.seq ?_); have z_ex := True.intro; refine WpM.regP [] ?_; intro K hK; refine s_o [(8, _)] rfl rfl rfl z_su rfl q_move z_fp z_ss ?_; refine s_call (callOf_eq rfl rfl rfl (mlk_tmp z_lk mlk_nil)) (hfo _) rfl rfl z_ip ?_; rintro _ z_S ⟨rfl, hS⟩; refine s_put z_fp ?_; refine s_o [(55, _)] rfl rfl rfl z_su rfl q_move z_fp z_ss ?_; refine s_endE [(1, _), (4, _), (8, _), (11, _), (12, _)] hK z_su ?_; clear hK K; clear z_ex)
          exact round_end (x' := ((k', s2.follow.1), s2.follow.2, steps + 1)) (St.Le.norm _) (Sub.le z_su) ⟨hrun, sr2, by simp only [follow_n']; omega, by simp only; omega, by simp only; omega, ⟨_, _, rfl, hS⟩, rfl⟩ (by simp only; omega)
        | false =>
          simp only [hle, Bool.false_eq_true, if_false] at hlearn hrun
          injection hrun with hrun
          ((repeat refine WpM.seq ?_); have z_ex := True.intro; refine WpM.regP [] ?_; intro K hK; refine s_o [(8, _)] rfl rfl rfl z_su rfl q_move z_fp z_ss ?_; refine s_o [(12, _)] rfl rfl rfl z_su rfl q_move z_fp z_ss ?_; refine s_call (callOf_eq rfl rfl rfl (mlk_tmp z_lk (mlk_tmp z_lk mlk_nil))) (hlearn _) rfl rfl z_ip ?_; rintro _ z_S ⟨rfl, hS⟩; refine s_put z_fp ?_; refine s_o [(84, _)] rfl rfl rfl z_su rfl q_unOp z_fp z_ss ?_; refine s_endE [(1, _), (4, _), (8, _), (11, _), (85, _)] hK z_su ?_; clear hK K; clear z_ex)
          ((repeat refine WpM.seq ?_); refine WpM.condT (by (simp (maxSteps := 2000000) (disch := omega) [go_sem, -List.map_map])) ?_)
          refine WpM.norm ?_
          intro nn3 G3 hnn3 hG3 hk3
          have hG3 : G3 = z_S.get := hG3
          rw [← hG3] at hS
          clear hG3 hnn3
          obtain ⟨s2, hs2⟩ : ∃ s2, s2 = (s.learn m).2 := ⟨_, rfl⟩
          rw [← hs2] at hS hrun
          obtain ⟨na, nv, nr, nd, nc, nt, nl, np, am, nx1, et, el, hE⟩ := hS
          have k1 := hE.box
          have k2 := hE.rp
          have gb3 := (hE.keep _ _ hn0).2
          have hold3 : ∀ m k, m < n0 → H m = some k → m ≠ bx ∧ G3 m = some k := fun m k hm hk => ⟨by omega, (hE.keep _ _ (hHH _ _ hk)).2⟩
          have hpf := hright.one (by rw [← hrun])
          rw [← hrun] at hpf
          simp only at hpf
          have hcp := fun n' => copied57o np s2.pf ⟨n', [], G3⟩ k2 (by have := hpf.2.2.2.2.2; omega) (fun c hc => by have := hpf.2.2.2.2.1 c hc; omega)
          ((repeat refine WpM.seq ?_); have z_ex := (And.intro @k1 (And.intro @svBox.eq_1 (And.intro @gb3 (And.intro @cls.eq_1 True.intro)))); refine WpM.regP [] ?_; intro K hK; refine s_o [(8, _)] rfl rfl rfl z_su rfl q_move z_fp z_ss ?_; refine s_o [(86, _)] rfl rfl rfl z_su rfl q_move z_fp z_ss ?_; refine s_o [(87, _)] rfl rfl rfl z_su rfl q_fieldAddr z_fp z_ss ?_; refine s_o [(88, _)] rfl rfl rfl z_su rfl q_load z_fp z_ss ?_; refine s_call (callOf_eq rfl rfl rfl (mlk_tmp z_lk mlk_nil)) (hcp _) rfl rfl z_ip ?_; rintro _ z_S ⟨no, ns, rfl, hno, hOR, hlo, hnoi, hold5⟩; have z_ex := And.intro (show lget z_S.l z_S.H bx = _ from hold5 _ _ gb3) z_ex; refine s_put z_fp ?_; refine s_o [(11, _)] rfl rfl rfl z_su rfl q_move z_fp z_ss ?_; refine s_o [(90, _), (91, _)] rfl rfl rfl z_su rfl q_build z_fp z_ss ?_; refine s_o [(4, _), (92, _)] rfl rfl rfl z_su rfl q_store z_fp z_ss ?_; refine s_o [] rfl rfl rfl z_su rfl q_move z_fp z_ss ?_; refine s_endE [(4, _), (5, _)] hK z_su ?_; clear hK K; clear z_ex)
          have hlo : nn3 ≤ no := Nat.le_trans (Nat.le_add_right _ _) hlo
          have hOR : OwnR nn3 z_S.get ns s2.pf := hOR.le (Nat.le_add_right _ _)
          have hbn := hk3 _ _ gb3
          have hn03 : n0 ≤ nn3 := by omega
          have hn03' : S.next ≤ nn3 := by omega
          refine WpM.norm ?_
          intro N G4 hN hG4 hk4
          have gb4 : G4 bx = some (.box [.d (.int .i64 1), .nil, .ms no 1 0 s2.pf.length, .d (.int .i64 (steps + 1))]) := by rw [hG4]; (simp (maxSteps := 2000000) (disch := omega) [go_sem, -List.map_map])
          have h6 : ∀ m k, m ≠ bx → z_S.get m = some k → G4 m = some k := fun m k hm hk => by
            have hk : lget z_S.l z_S.H m = some k := hk
            rw [hG4]; (simp (maxSteps := 2000000) (disch := omega) [go_sem, -List.map_map, hm, hk])
          have hno4 := h6 no _ (by omega) hno
          have hOR4 : OwnR nn3 G4 ns s2.pf := hOR.old fun m k hm hk => h6 m k (by have := hOR.low m hm; omega) hk
          have hold4 : ∀ m k, m < n0 → H m = some k → m ≠ bx ∧ G4 m = some k := fun m k hm hk => by
            obtain ⟨h1, h2⟩ := hold3 m k hm hk
            exact ⟨h1, h6 m k h1 (hold5 m k h2)⟩
          clear hG4
          have hoN := hk4 _ _ hno4
          have hbN := hk4 _ _ gb4
          rw [← hrun]
          refine WpM.ret ?_
          refine ⟨.inr rfl, Upd.ghostIn bx 1 1 (cs := [.d (.int .i64 1), .nil, .ms no 1 0 s2.pf.length, .d (.int .i64 (steps + 1))]) (by (simp (maxSteps := 2000000) (disch := omega) [go_sem, -List.map_map, gb4])) (.inl rfl) (Upd.done ⟨_, (by (simp (maxSteps := 2000000) (disch := omega) [go_sem, -List.map_map, resV, resVs, resV1])), N, no, ns, rfl, (by (simp (maxSteps := 2000000) (disch := omega) [go_sem, -List.map_map, bl])), ?_, ?_, (by omega), (by omega), (by omega), fun hm => ?_, hnoi, fun m k hk => ?_⟩)⟩
          · have h1 : no ≠ bx := by omega
            have h2 : no ≠ N := by omega
            (simp (maxSteps := 2000000) (disch := omega) [go_sem, -List.map_map, h1, h2, hno4])
          · refine (hOR4.old fun m k hm hk => ?_).le hn03'
            have h1 : m ≠ bx := by have := hOR.low m hm; omega
            have h2 : m ≠ N := by have := hk4 _ _ hk; omega
            (simp (maxSteps := 2000000) (disch := omega) [go_sem, -List.map_map, h1, h2, hk])
          · obtain ⟨k, hk⟩ := hOR4.is hm
            have := hk4 _ _ hk
            omega
          · have hk : H m = some k := by rw [hHe]; exact hk
            have hm := hH m k hk
            obtain ⟨h1, h2⟩ := hold4 m k hm hk
            have h3 : m ≠ N := by have := hk4 _ _ h2; omega
            (simp (maxSteps := 2000000) (disch := omega) [go_sem, -List.map_map, h1, h2, h3])
      | none =>
        simp only at hrun
        have hw1 : ¬ (0 : Int) ≤ wI none := by simp [wI]
        ((repeat refine WpM.seq ?_); have z_ex := (And.intro @hw1 True.intro); refine WpM.regPE [] [(1, _), (4, _), (8, _), (11, _), (12, _), (77, _)] (by (refine s_o [(12, _)] rfl rfl rfl z_su rfl q_move z_fp z_ss ?_; refine s_o [(78, _)] rfl rfl rfl z_su rfl q_full z_fp z_ss ?_; refine s_o [(79, _)] rfl rfl rfl z_su rfl q_move z_fp z_ss ?_; exact wpS_nil ⟨rfl, rfl⟩)) z_su ?_; clear z_ex)
        ((repeat refine WpM.seq ?_); refine WpM.condF (by (simp (maxSteps := 2000000) (disch := omega) [go_sem, -List.map_map])) ?_)
        have hdec := fun n' => decide58 H0 sp s ⟨n', [], G⟩ hSv hw (by omega)
        cases hde : s.decide with
        | some s' =>
          rw [hde] at hdec hrun
          simp only [Option.isSome_some, Option.getD_some] at hdec hrun
          ((repeat refine WpM.seq ?_); have z_ex := True.intro; refine WpM.regP [] ?_; intro K hK; refine s_o [(8, _)] rfl rfl rfl z_su rfl q_move z_fp z_ss ?_; refine s_call (callOf_eq rfl rfl rfl (mlk_tmp z_lk mlk_nil)) (hdec _) rfl rfl z_ip ?_; rintro _ z_S ⟨rfl, hS⟩; refine s_put z_fp ?_; refine s_o [(95, _)] rfl rfl rfl z_su rfl q_move z_fp z_ss ?_; refine s_endE [(1, _), (4, _), (8, _), (11, _), (93, _)] hK z_su ?_; clear hK K; clear z_ex)
          ((repeat refine WpM.seq ?_); refine WpM.condT (by (simp (maxSteps := 2000000) (disch := omega) [go_sem, -List.map_map])) ?_)
          ((repeat refine WpM.seq ?_); have z_ex := (And.intro @wrap_id True.intro); refine WpM.regPE [] [(1, _), (4, _), (8, _), (11, _)] (by (refine s_o [(11, _)] rfl rfl rfl z_su rfl q_move z_fp z_ss ?_; refine s_o [(96, _)] rfl rfl rfl z_su rfl q_full z_fp z_ss ?_; refine s_o [(97, _)] rfl rfl rfl z_su rfl q_move z_fp z_ss ?_; exact wpS_nil ⟨rfl, rfl⟩)) z_su ?_; clear z_ex)
          refine blockM_norm (blockM_norm ?_)
          refine WpM.norm ?_
          intro nn3 G3 hnn3 hG3 hk3
          have hG3 : G3 = z_S.get := hG3
          rw [← hG3] at hS
          clear hG3 hk3 hnn3
          obtain ⟨w2, cur2, sr2⟩ := hsr.decide3 hde
          have n2 := decide_n hde
          have hlt : steps < budget := by
            rcases Nat.lt_or_ge steps budget with h1 | h1
            · exact h1
            · exfalso
              have hz : (0 : Int) ∉ s.val.drop 1 := fun e => hu2 ⟨by omega, .inr e⟩
              have := no_zero hsr.wf hz
              unfold Sv.decide at hde
              rw [this] at hde
              cases hde
          obtain ⟨s2, hs2⟩ : ∃ s2, s2 = s' := ⟨_, rfl⟩
          rw [← hs2] at hS w2 cur2 sr2 hrun n2
          have hsm2 : Small s2 := Small.back (follow_spec w2 cur2).2.2.1 (sr2.small (by rw [follow_n']; omega) hn (by omega) (fun c hc => by have := hcs c hc; omega) hmass (by omega)).1
          have hfo := fun n' => SvS.follow H0 sp s2 ⟨n', [], G3⟩ hS w2 cur2 hsm2
          ((repeat refine WpM.seq ?_); have z_ex := True.intro; refine WpM.regP [] ?_; intro K hK; refine s_o [(8, _)] rfl rfl rfl z_su rfl q_move z_fp z_ss ?_; refine s_call (callOf_eq rfl rfl rfl (mlk_tmp z_lk mlk_nil)) (hfo _) rfl rfl z_ip ?_; rintro _ z_S ⟨rfl, hS⟩; refine s_put z_fp ?_; refine s_o [(55, _)] rfl rfl rfl z_su rfl q_move z_fp z_ss ?_; refine s_endE [(1, _), (4, _), (8, _), (11, _), (12, _)] hK z_su ?_; clear hK K; clear z_ex)
          exact round_end (x' := ((k', s2.follow.1), s2.follow.2, steps + 1)) (St.Le.norm _) (Sub.le z_su) ⟨hrun, sr2, by simp only [follow_n']; omega, by simp only; omega, by simp only; omega, ⟨_, _, rfl, hS⟩, rfl⟩ (by simp only; omega)
        | none =>
          rw [hde] at hdec hrun
          simp only [Option.isSome_none, Option.getD_none] at hdec hrun
          injection hrun with hrun
          ((repeat refine WpM.seq ?_); have z_ex := True.intro; refine WpM.regP [] ?_; intro K hK; refine s_o [(8, _)] rfl rfl rfl z_su rfl q_move z_fp z_ss ?_; refine s_call (callOf_eq rfl rfl rfl (mlk_tmp z_lk mlk_nil)) (hdec _) rfl rfl z_ip ?_; rintro _ z_S ⟨rfl, hS⟩; refine s_put z_fp ?_; refine s_o [(95, _)] rfl rfl rfl z_su rfl q_move z_fp z_ss ?_; refine s_endE [(1, _), (4, _), (8, _), (11, _), (93, _)] hK z_su ?_; clear hK K; clear z_ex)
          ((repeat refine WpM.seq ?_); refine WpM.condF (by (simp (maxSteps := 2000000) (disch := omega) [go_sem, -List.map_map])) ?_)
          refine WpM.norm ?_
          intro nn3 G3 hnn3 hG3 hk3
          have hG3 : G3 = z_S.get := hG3
          rw [← hG3] at hS
          clear hG3
          have hmo := fun n' => model59 H0 sp s ⟨n', [], G3⟩ hS hw.len (by omega)
          obtain ⟨gb3, hold3⟩ : G3 bx = some (.box [.d (.int .i64 0), .nil, .nil, .d (.int .i64 0)]) ∧ ∀ m k, m < n0 → H m = some k → m ≠ bx ∧ G3 m = some k := by
            obtain ⟨na, nv, nr, nd, nc, nt, nl, np, am, nx1, et, el, hE⟩ := hS
            exact ⟨(hE.keep _ _ hn0).2, fun m k hm hk => ⟨by omega, (hE.keep _ _ (hHH _ _ hk)).2⟩⟩
          ((repeat refine WpM.seq ?_); have z_ex := True.intro; refine WpM.regP [] ?_; intro K hK; refine s_o [(8, _)] rfl rfl rfl z_su rfl q_move z_fp z_ss ?_; refine s_call (callOf_eq rfl rfl rfl (mlk_tmp z_lk mlk_nil)) (hmo _) rfl rfl z_ip ?_; rintro _ z_S ⟨nm, h1, rfl, h2, h3⟩; have z_ex := And.intro (show lget z_S.l z_S.H bx = _ from h3 _ _ gb3) z_ex; refine s_put z_fp ?_; refine s_o [(11, _)] rfl rfl rfl z_su rfl q_move z_fp z_ss ?_; refine s_o [(74, _), (75, _)] rfl rfl rfl z_su rfl q_build z_fp z_ss ?_; refine s_o [(4, _), (76, _)] rfl rfl rfl z_su rfl q_store z_fp z_ss ?_; refine s_o [] rfl rfl rfl z_su rfl q_move z_fp z_ss ?_; refine s_endE [(4, _), (5, _)] hK z_su ?_; clear hK K; clear z_ex)
          have hmr : s.model.length = s.n + 1 := by unfold Sv.model; rw [List.length_map]; exact hw.vlen
          have hnb : nm ≠ bx := by
            intro e
            have h4 := hk3 _ _ gb3
            have h1 : nn3 + 1 ≤ nm := h1
            omega
          have h2 : lget z_S.l z_S.H nm = some (.row 1 (s.model.map bl)) := h2
          have hn03 : nn3 + 1 ≤ nm := h1
          have hbn := hk3 _ _ gb3
          refine WpM.norm ?_
          intro N G4 hN hG4 hk4
          have gb4 : G4 bx = some (.box [.d (.int .i64 2), .ms nm 1 0 (s.n + 1), .nil, .d (.int .i64 steps)]) := by rw [hG4]; (simp (maxSteps := 2000000) (disch := omega) [go_sem, -List.map_map])
          have hm4 : G4 nm = some (.row 1 (s.model.map bl)) := by rw [hG4]; (simp (maxSteps := 2000000) (disch := omega) [go_sem, -List.map_map, hnb, h2])
          have hold4 : ∀ m k, m < n0 → H m = some k → m ≠ bx ∧ G4 m = some k := fun m k hm hk => by
            obtain ⟨h5, h6⟩ := hold3 m k hm hk
            refine ⟨h5, ?_⟩
            have h7 : lget z_S.l z_S.H m = some k := h3 m k h6
            rw [hG4]; (simp (maxSteps := 2000000) (disch := omega) [go_sem, -List.map_map, h5, h7])
          clear hG4
          have hmN := hk4 _ _ hm4
          have hbN := hk4 _ _ gb4
          rw [← hrun]
          refine WpM.ret ?_
          refine ⟨.inr rfl, Upd.ghostIn bx 2 1 (cs := [.d (.int .i64 2), .ms nm 1 0 (s.n + 1), .nil, .d (.int .i64 steps)]) (by (simp (maxSteps := 2000000) (disch := omega) [go_sem, -List.map_map, gb4])) (.inl rfl) (Upd.done ⟨.tup [.agg [.d (.int .i64 2), .ms nm 1 0 (s.n + 1), .ms N 1 0 0, .d (.int .i64 steps)], .d (.int .i64 0)], (by (simp (maxSteps := 2000000) (disch := omega) [go_sem, -List.map_map, resV, resVs, resV1])), nm, N, [], (by simp only [hmr]; rfl), ?_, (by (simp (maxSteps := 2000000) (disch := omega) [go_sem, -List.map_map, rowsV])), OwnR.zero, (by omega), (by omega), (by omega), (by simp), (by simp), fun m k hk => ?_⟩)⟩
          · have h8 : nm ≠ N := by omega
            (simp (maxSteps := 2000000) (disch := omega) [go_sem, -List.map_map, hnb, h8, hm4])
          · have hk : H m = some k := by rw [hHe]; exact hk
            have hm := hH m k hk
            obtain ⟨h5, h6⟩ := hold4 m k hm hk
            have h8 : m ≠ N := by have := hk4 _ _ h6; omega
            (simp (maxSteps := 2000000) (disch := omega) [go_sem, -List.map_map, h5, h6, h8])
end Go.Proofs.Ytafeehlpmdligaa
