/- proof.newChecker. -/
import Derived.Test.YtafeehlpmdligaaROp
import Derived.Test.YtafeehlpmdligaaRAdd42
namespace Go.Proofs.Ytafeehlpmdligaa
open Go.RowKit M
set_option linter.unusedSimpArgs false
set_option linter.unusedVariables false
theorem cks_nil {H0 G : Nat → Option Blk} {ck nc na ns : Nat} (h1 : ∀ m k, H0 m = some k → G m = some k) (h2 : H0 ck = none) (h3 : H0 nc = none) (h4 : H0 na = none) (h5 : H0 ns = none)
    (k1 : G ck = some (.box [.ms nc 1 0 0, .map na, .ms ns 1 0 0])) (k2 : G nc = some (.row 1 [])) (k3 : G ns = some (.row 1 [])) (k4 : G na = some (.map (.int .i64) fun _ => none)) (hne : nc ≠ ns) : CkS H0 ck [] G :=
  ⟨nc, na, ns, fun _ => none, fun _ => 0, h1, h2, h3, h4, h5, k1, k2, k3, hne, ⟨k4, fun _ _ => rfl, fun l hl => absurd rfl hl, fun l l' hl => absurd rfl hl⟩, fun l hl => absurd rfl hl⟩
set_option maxHeartbeats 8000000 in
theorem new40 (H0 : Nat → Option Blk) (n : Int) (cs : List (List Int)) (S : St) (h0 : ∀ m k, H0 m = some k → S.get m = some k) (hb : mass cs ≤ 1000000000) (hl : ∀ c ∈ cs, ∀ l ∈ c, -4096 ≤ l ∧ l ≤ 4096) :
    CallM Try.prog 40 [.d (cnf n cs)] S fun r S' => ∃ ck, r = .ptr ck 0 ∧ CkS H0 ck cs S'.get := by
  refine CallM.start (n := 21) Try.func40 rfl rfl (by simp) (by simp only [argL, Nat.reduceAdd] <;> rfl) ?_
  intro hH
  obtain ⟨H, hHe⟩ : ∃ H, H = S.get := ⟨_, rfl⟩
  obtain ⟨n0, hne⟩ : ∃ n0, n0 = S.next := ⟨_, rfl⟩
  rw [← hHe, ← hne] at hH ⊢
  rw [← hHe] at h0
  have hlm := len_mass cs
  ((repeat refine WpM.seq ?_); have z_ex := (And.intro @cnf.eq_1 True.intro); refine WpM.regPE [] [(1, _)] (by (refine s_o [(0, _)] rfl rfl rfl z_su rfl q_box z_fp z_ss ?_; refine s_o [] rfl rfl rfl z_su rfl q_move z_fp z_ss ?_; exact wpS_nil ⟨rfl, rfl⟩)) z_su ?_; clear z_ex)
  ((repeat refine WpM.seq ?_); have z_ex := True.intro; refine WpM.regPE [] [(1, _), (3, _)] (by (refine s_o [] rfl rfl rfl z_su rfl q_makeMap z_fp z_ss ?_; refine s_o [(6, _)] rfl rfl rfl z_su rfl q_build z_fp z_ss ?_; refine s_o [(7, _)] rfl rfl rfl z_su rfl q_box z_fp z_ss ?_; refine s_o [(8, _)] rfl rfl rfl z_su rfl q_move z_fp z_ss ?_; exact wpS_nil ⟨rfl, rfl⟩)) z_su ?_; clear z_ex)
  refine Upd.wp (Upd.ghostIn (cs := [.nil, .map (n0 + 2), .nil]) (n0 + 4) 0 1 (by (simp (maxSteps := 2000000) (disch := omega) [go_sem, -List.map_map])) (.inl rfl) (Upd.ghostIn (cs := [.ms (n0 + 6) 1 0 0, .map (n0 + 2), .nil]) (n0 + 4) 2 1 (by (simp (maxSteps := 2000000) (disch := omega) [go_sem, -List.map_map, List.set])) (.inl rfl) (Upd.done ?_)))
  refine WpM.norm ?_
  intro nx0 G0 hnx0 hG0 hk0
  have fresh : ∀ m, n0 ≤ m → H0 m = none := fun m hm => by
    cases e : H0 m with
    | none => rfl
    | some k => have := hH _ _ (h0 _ _ e); omega
  have q0 : G0 n0 = some (.box [.d (.int .i64 n), .d (cls cs)]) := by rw [hG0]; (simp (maxSteps := 2000000) (disch := omega) [go_sem, -List.map_map, cls])
  have q1 : CkS H0 (n0 + 4) [] G0 := by
    refine cks_nil (nc := n0 + 6) (na := n0 + 2) (ns := n0 + 7) ?_ (fresh _ (by omega)) (fresh _ (by omega)) (fresh _ (by omega)) (fresh _ (by omega)) ?_ ?_ ?_ ?_ (by omega)
    · intro m k hm
      have := hH _ _ (h0 _ _ hm)
      have := h0 _ _ hm
      rw [hG0]
      (simp (maxSteps := 2000000) (disch := omega) [go_sem, -List.map_map, this])
    · rw [hG0]; (simp (maxSteps := 2000000) (disch := omega) [go_sem, -List.map_map, List.set])
    · rw [hG0]; (simp (maxSteps := 2000000) (disch := omega) [go_sem, -List.map_map])
    · rw [hG0]; (simp (maxSteps := 2000000) (disch := omega) [go_sem, -List.map_map])
    · rw [hG0]; (simp (maxSteps := 2000000) (disch := omega) [go_sem, -List.map_map])
  have hnx0' : nx0 = n0 + 8 := hnx0
  clear hG0 hnx0
  ((repeat refine WpM.seq ?_); have z_ex := (And.intro @q0 (And.intro @cls.eq_1 True.intro)); refine WpM.regPE [] [(3, _), (10, _), (11, _), (12, _)] (by (refine s_o [(1, _)] rfl rfl rfl z_su rfl q_fieldAddr z_fp z_ss ?_; refine s_o [(9, _)] rfl rfl rfl z_su rfl q_load z_fp z_ss ?_; refine s_o [(10, _)] rfl rfl rfl z_su rfl q_full z_fp z_ss ?_; refine s_o [] rfl rfl rfl z_su rfl q_move z_fp z_ss ?_; exact wpS_nil ⟨rfl, rfl⟩)) z_su ?_; clear z_ex)
  ((repeat refine WpM.seq ?_); refine WpM.block ?_)
  refine WpM.loop (fun (j : Nat) fr S => j ≤ cs.length ∧ ∃ nx G, S = ⟨nx, [], G⟩ ∧ CkS H0 (n0 + 4) (cs.take j) G ∧ fr = frOf [(3, .ptr (n0 + 4) 0), (10, .d (cls cs)), (11, .d (.int .i64 cs.length)), (12, .d (.int .i64 j))]) (fun j => cs.length - j) 0 (St.Le.refl _) (frLe_frOf (by (simp (maxSteps := 2000000) (disch := omega) [go_sem, -List.map_map, cls]))) ⟨by omega, _, _, rfl, q1, rfl⟩ ?_
  rintro j fr S' ⟨hj, nx, G, rfl, hE, rfl⟩
  ((repeat refine WpM.seq ?_); have z_ex := True.intro; refine WpM.regPE [] [(3, _), (10, _), (11, _), (12, _), (13, _)] (by (refine s_o [(11, _), (12, _)] rfl rfl rfl z_su rfl q_full z_fp z_ss ?_; exact wpS_nil ⟨rfl, rfl⟩)) z_su ?_; clear z_ex)
  by_cases hlt : j < cs.length
  · ((repeat refine WpM.seq ?_); refine WpM.condT (by (simp (maxSteps := 2000000) (disch := omega) [go_sem, -List.map_map, hlt])) ?_)
    refine WpM.skip ?_
    ((repeat refine WpM.seq ?_); refine WpM.block ?_)
    have hcl := hl cs[j] (List.getElem_mem _)
    have hms := mass_take hlt
    have hml := mass_take_le cs (j + 1)
    obtain ⟨c, hce⟩ : ∃ c, c = cs[j] := ⟨_, rfl⟩
    have hget : (cs.map ints)[j]? = some (ints c) := by rw [lens cs j hlt, hce]
    have htk : cs.take (j + 1) = cs.take j ++ [c] := by rw [List.take_succ_eq_append_getElem hlt, hce]
    rw [← hce] at hcl hms
    ((repeat refine WpM.seq ?_); have z_ex := (And.intro @hget (And.intro @cls.eq_1 (And.intro @ints.eq_1 True.intro))); refine WpM.regPE [] [(3, _), (5, _), (10, _), (11, _), (12, _)] (by (refine s_o [(10, _), (12, _)] rfl rfl rfl z_su rfl q_full z_fp z_ss ?_; refine s_o [(14, _)] rfl rfl rfl z_su rfl q_load z_fp z_ss ?_; refine s_o [(15, _)] rfl rfl rfl z_su rfl q_move z_fp z_ss ?_; exact wpS_nil ⟨rfl, rfl⟩)) z_su ?_; clear z_ex)
    ((repeat refine WpM.seq ?_); have z_ex := True.intro; refine WpM.regP [] ?_; intro K hK; refine s_o [(3, _)] rfl rfl rfl z_su rfl q_move z_fp z_ss ?_; refine s_o [(5, _)] rfl rfl rfl z_su rfl q_move z_fp z_ss ?_; refine s_call (callOf_eq rfl rfl rfl (mlk_tmp z_lk (mlk_tmp z_lk mlk_nil))) (add42 H0 (n0 + 4) (cs.take j) c ⟨_, [], G⟩ hE (by omega) hcl) rfl rfl z_ip ?_; rintro _ z_S hC; refine s_put z_fp ?_; refine s_endE [(3, _), (10, _), (11, _), (12, _)] hK z_su ?_; clear hK K; clear z_ex)
    refine WpM.norm ?_
    intro nx1 G1 hnx1 hG1 hk1
    rw [← htk] at hC
    ((repeat refine WpM.seq ?_); have z_ex := (And.intro @wrap_id True.intro); refine WpM.regPE [] [(3, _), (10, _), (11, _), (12, _)] (by (refine s_o [(12, _)] rfl rfl rfl z_su rfl q_full z_fp z_ss ?_; refine s_o [(19, _)] rfl rfl rfl z_su rfl q_move z_fp z_ss ?_; exact wpS_nil ⟨rfl, rfl⟩)) z_su ?_; clear z_ex)
    refine round_end (x' := j + 1) (St.Le.refl _) (frLe_frOf (by (simp (maxSteps := 2000000) (disch := omega) [go_sem, -List.map_map, wrap_id]))) ⟨by omega, _, _, rfl, by rw [hG1]; exact hC, rfl⟩ (by omega)
  · ((repeat refine WpM.seq ?_); refine WpM.condF (by (simp (maxSteps := 2000000) (disch := omega) [go_sem, -List.map_map, hlt])) ?_)
    (refine WpM.exit ?_; (repeat (with_reducible (first | refine thenM_exit ?_ | refine blockM_eq ?_ | refine blockM_ne (by decide) ?_))))
    obtain rfl : j = cs.length := by omega
    rw [List.take_length] at hE
    ((repeat refine WpM.seq ?_); have z_ex := True.intro; refine WpM.regPE [] [(2, _)] (by (refine s_o [(3, _)] rfl rfl rfl z_su rfl q_move z_fp z_ss ?_; refine s_o [(20, _)] rfl rfl rfl z_su rfl q_move z_fp z_ss ?_; exact wpS_nil ⟨rfl, rfl⟩)) z_su ?_; clear z_ex)
    refine WpM.ret ?_
    exact ⟨.inr rfl, Upd.done ⟨.ptr (n0 + 4) 0, (by (simp (maxSteps := 2000000) (disch := omega) [go_sem, -List.map_map, resV, resVs, resV1])), n0 + 4, rfl, hE⟩⟩
end Go.Proofs.Ytafeehlpmdligaa
