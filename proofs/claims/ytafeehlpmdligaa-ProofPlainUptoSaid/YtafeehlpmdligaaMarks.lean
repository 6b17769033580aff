/- assizeref15.put and only: literals as marks of variables. -/
import Derived.Test.YtafeehlpmdligaaOp
import Derived.Test.YtafeehlpmdligaaUnit2
namespace Go.Proofs.Ytafeehlpmdligaa
open Go.RowKit M
set_option linter.unusedSimpArgs false
set_option linter.unusedVariables false
/-- A variable's mark. -/
def side (K : Int → Bool) (v : Nat) : Int := if K v = true then 1 else if K (-(v : Int)) = true then -1 else 0
def marks (n : Nat) (K : Int → Bool) : List V := (List.range (n + 1)).map fun v => .d (.int .i64 (side K v))
theorem marks_at {n v : Nat} (K : Int → Bool) (h : v ≤ n) : (marks n K)[v]? = some (.d (.int .i64 (side K v))) := by
  have hv : v < n + 1 := by omega
  simp [marks, hv]
theorem marks_len (n : Nat) (K : Int → Bool) : (marks n K).length = n + 1 := by simp [marks]
theorem marks_set {n v : Nat} {K : Int → Bool} {l s : Int} (hv : v ≤ n) (h0 : l ≠ 0) (hl : l = v ∧ s = 1 ∨ l = -(v : Int) ∧ s = -1) (hk : K (-l) = false) : (marks n K).set v (.d (.int .i64 s)) = marks n (setP K l) := by
  refine List.ext_getElem? fun i => ?_
  rw [List.getElem?_set]
  by_cases hi : v = i
  · subst hi
    rw [if_pos rfl, if_pos (by rw [marks_len]; omega), marks_at _ hv]
    rcases hl with ⟨rfl, rfl⟩ | ⟨rfl, rfl⟩
    · simp [side, setP]
    · have h1 : ¬ ((v : Int) = -(v : Int)) := by omega
      simp only [Int.neg_neg] at hk
      simp [side, setP, h1, hk]
  · rw [if_neg hi]
    by_cases hn : i ≤ n
    · rw [marks_at _ hn, marks_at _ hn]
      have h1 : ¬ ((i : Int) = l) := by omega
      have h2 : ¬ (-(i : Int) = l) := by omega
      simp [side, setP, h1, h2]
    · rw [List.getElem?_eq_none (by rw [marks_len]; omega), List.getElem?_eq_none (by rw [marks_len]; omega)]
theorem abs_cases {l : Int} (h : l ≠ 0) : ∃ v : Nat, 0 < v ∧ (l = v ∨ l = -(v : Int)) := by
  refine ⟨l.natAbs, by omega, by omega⟩
theorem wrap_m1 : IntKind.i64.wrap (-1) = -1 := by rw [IntKind.wrap_i64]; rfl
theorem wrap_p1 : IntKind.i64.wrap 1 = 1 := by rw [IntKind.wrap_i64]; rfl
set_option maxHeartbeats 8000000 in
theorem put76 (n : Nat) (K : Int → Bool) (l : Int) (hn : n ≤ 4096) (h0 : l ≠ 0) (hl : -(n : Int) ≤ l ∧ l ≤ n) (hk : K l = true → K (-l) = false) (nm : Nat) (S : St) (hS : S.get nm = some (.row 1 (marks n K))) :
    CallM Try.prog 76 [.ms nm 1 0 (n + 1), .d (.int .i64 l)] S fun r S' => (r = .d (.bool (!K (-l))) ∧ S.next ≤ S'.next ∧ (∀ m k, m ≠ nm → S.get m = some k → S'.get m = some k) ∧ S'.get nm = some (.row 1 (marks n (if K (-l) = true then K else setP K l)))) := by
  refine CallM.start (n := 24) Try.func76 rfl rfl (by simp) (by simp only [argL, Nat.reduceAdd] <;> rfl) ?_
  intro hH
  obtain ⟨H, hHe⟩ : ∃ H, H = S.get := ⟨_, rfl⟩
  obtain ⟨n0, hne⟩ : ∃ n0, n0 = S.next := ⟨_, rfl⟩
  rw [← hHe, ← hne] at hH ⊢
  rw [← hHe] at hS
  have g1 := hH _ _ hS
  obtain ⟨v, hv, hlv⟩ := abs_cases h0
  have hvn : v ≤ n := by omega
  have hget := marks_at K hvn
  have hset := fun s hl hk' => marks_set (n := n) (v := v) (K := K) (l := l) (s := s) hvn h0 hl hk'
  rcases hlv with rfl | rfl
  · ((repeat refine WpM.seq ?_); have z_ex := True.intro; refine WpM.regPE [] [(0, _), (1, _)] (by (refine s_o [] rfl rfl rfl z_su rfl q_move z_fp z_ss ?_; exact wpS_nil ⟨rfl, rfl⟩)) z_su ?_; clear z_ex)
    ((repeat refine WpM.seq ?_); have z_ex := (And.intro @wrap_0sub (And.intro @wrap_neg True.intro)); refine WpM.regPE [] [(0, _), (1, _), (5, _)] (by (refine s_o [(1, _)] rfl rfl rfl z_su rfl q_move z_fp z_ss ?_; refine s_o [(1, _)] rfl rfl rfl z_su rfl q_move z_fp z_ss ?_; refine s_o [(8, _)] rfl rfl rfl z_su rfl q_unOp z_fp z_ss ?_; refine s_o [(7, _), (9, _)] rfl rfl rfl z_su rfl q_full z_fp z_ss ?_; refine s_o [(10, _)] rfl rfl rfl z_su rfl q_move z_fp z_ss ?_; exact wpS_nil ⟨rfl, rfl⟩)) z_su ?_; clear z_ex)
    ((repeat refine WpM.seq ?_); have z_ex := True.intro; refine WpM.regPE [] [(0, _), (1, _), (5, _), (6, _)] (by (refine s_o [] rfl rfl rfl z_su rfl q_move z_fp z_ss ?_; exact wpS_nil ⟨rfl, rfl⟩)) z_su ?_; clear z_ex)
    ((repeat refine WpM.seq ?_); have z_ex := True.intro; refine WpM.regPE [] [(0, _), (5, _), (6, _), (12, _)] (by (refine s_o [(1, _)] rfl rfl rfl z_su rfl q_move z_fp z_ss ?_; refine s_o [(11, _)] rfl rfl rfl z_su rfl q_full z_fp z_ss ?_; exact wpS_nil ⟨rfl, rfl⟩)) z_su ?_; clear z_ex)
    ((repeat refine WpM.seq ?_); refine WpM.condF (by (simp (maxSteps := 2000000) (disch := omega) [go_sem, -List.map_map])) ?_)
    refine WpM.skip ?_
    cases hkl : K (-(v : Int)) with
    | true =>
      have hsd : side K v = -1 := by
        have : K (v : Int) = false := by cases e : K (v : Int) with | false => rfl | true => rw [hk e] at hkl; cases hkl
        simp [side, hkl, this]
      rw [hsd] at hget
      ((repeat refine WpM.seq ?_); have z_ex := (And.intro @hS (And.intro @hget (And.intro @wrap_m1 (And.intro @wrap_p1 (And.intro @wrap_0sub (And.intro @wrap_neg True.intro)))))); refine WpM.regPE [] [(0, _), (5, _), (6, _), (19, _)] (by (refine s_o [(0, _)] rfl rfl rfl z_su rfl q_move z_fp z_ss ?_; refine s_o [(5, _)] rfl rfl rfl z_su rfl q_move z_fp z_ss ?_; refine s_o [(13, _), (14, _)] rfl rfl rfl z_su rfl q_full z_fp z_ss ?_; refine s_o [(15, _)] rfl rfl rfl z_su rfl q_load z_fp z_ss ?_; refine s_o [(6, _)] rfl rfl rfl z_su rfl q_move z_fp z_ss ?_; refine s_o [(17, _)] rfl rfl rfl z_su rfl q_unOp z_fp z_ss ?_; refine s_o [(16, _), (18, _)] rfl rfl rfl z_su rfl q_full z_fp z_ss ?_; exact wpS_nil ⟨rfl, rfl⟩)) z_su ?_; clear z_ex)
      ((repeat refine WpM.seq ?_); refine WpM.condT (by (simp (maxSteps := 2000000) (disch := omega) [go_sem, -List.map_map])) ?_)
      ((repeat refine WpM.seq ?_); have z_ex := True.intro; refine WpM.regPE [] [(4, _)] (by (refine s_o [] rfl rfl rfl z_su rfl q_move z_fp z_ss ?_; exact wpS_nil ⟨rfl, rfl⟩)) z_su ?_; clear z_ex)
      refine WpM.ret ?_
      exact ⟨.inr rfl, Upd.done ⟨.d (.bool false), (by (simp (maxSteps := 2000000) (disch := omega) [go_sem, -List.map_map, resV, resVs, resV1])), rfl, (by show n0 ≤ n0 + 17; omega), fun m k _ hm => hm, hS⟩⟩
    | false =>
      have hsd : ¬ side K v = -1 := by unfold side; simp only [hkl]; split <;> simp
      have hse := hset 1 (.inl ⟨rfl, rfl⟩) hkl
      ((repeat refine WpM.seq ?_); have z_ex := (And.intro @hS (And.intro @hget (And.intro @hsd (And.intro @wrap_m1 (And.intro @wrap_p1 (And.intro @wrap_0sub (And.intro @wrap_neg True.intro))))))); refine WpM.regPE [] [(0, _), (5, _), (6, _), (19, _)] (by (refine s_o [(0, _)] rfl rfl rfl z_su rfl q_move z_fp z_ss ?_; refine s_o [(5, _)] rfl rfl rfl z_su rfl q_move z_fp z_ss ?_; refine s_o [(13, _), (14, _)] rfl rfl rfl z_su rfl q_full z_fp z_ss ?_; refine s_o [(15, _)] rfl rfl rfl z_su rfl q_load z_fp z_ss ?_; refine s_o [(6, _)] rfl rfl rfl z_su rfl q_move z_fp z_ss ?_; refine s_o [(17, _)] rfl rfl rfl z_su rfl q_unOp z_fp z_ss ?_; refine s_o [(16, _), (18, _)] rfl rfl rfl z_su rfl q_full z_fp z_ss ?_; exact wpS_nil ⟨rfl, rfl⟩)) z_su ?_; clear z_ex)
      ((repeat refine WpM.seq ?_); refine WpM.condF (by (simp (maxSteps := 2000000) (disch := omega) [go_sem, -List.map_map, hsd])) ?_)
      refine WpM.skip ?_
      ((repeat refine WpM.seq ?_); have z_ex := (And.intro @hS (And.intro @hget (And.intro @wrap_neg True.intro))); refine WpM.regPE [] [] (by (refine s_o [(0, _)] rfl rfl rfl z_su rfl q_move z_fp z_ss ?_; refine s_o [(5, _)] rfl rfl rfl z_su rfl q_move z_fp z_ss ?_; refine s_o [(6, _)] rfl rfl rfl z_su rfl q_move z_fp z_ss ?_; refine s_o [(20, _), (21, _)] rfl rfl rfl z_su rfl q_full z_fp z_ss ?_; refine s_o [(22, _), (23, _)] rfl rfl rfl z_su rfl q_store z_fp z_ss ?_; exact wpS_nil ⟨rfl, rfl⟩)) z_su ?_; clear z_ex)
      ((repeat refine WpM.seq ?_); have z_ex := True.intro; refine WpM.regPE [] [(4, _)] (by (refine s_o [] rfl rfl rfl z_su rfl q_move z_fp z_ss ?_; exact wpS_nil ⟨rfl, rfl⟩)) z_su ?_; clear z_ex)
      refine WpM.ret ?_
      refine ⟨.inr rfl, Upd.done ⟨.d (.bool true), (by (simp (maxSteps := 2000000) (disch := omega) [go_sem, -List.map_map, resV, resVs, resV1])), rfl, (by show n0 ≤ n0 + 22; omega), fun m k hm hk => by (simp (maxSteps := 2000000) (disch := omega) [go_sem, -List.map_map, hm, hk]), ?_⟩⟩
      (simp (maxSteps := 2000000) (disch := omega) [go_sem, -List.map_map, hse])
  · ((repeat refine WpM.seq ?_); have z_ex := True.intro; refine WpM.regPE [] [(0, _), (1, _)] (by (refine s_o [] rfl rfl rfl z_su rfl q_move z_fp z_ss ?_; exact wpS_nil ⟨rfl, rfl⟩)) z_su ?_; clear z_ex)
    ((repeat refine WpM.seq ?_); have z_ex := (And.intro @wrap_0sub (And.intro @wrap_neg True.intro)); refine WpM.regPE [] [(0, _), (1, _), (5, _)] (by (refine s_o [(1, _)] rfl rfl rfl z_su rfl q_move z_fp z_ss ?_; refine s_o [(1, _)] rfl rfl rfl z_su rfl q_move z_fp z_ss ?_; refine s_o [(8, _)] rfl rfl rfl z_su rfl q_unOp z_fp z_ss ?_; refine s_o [(7, _), (9, _)] rfl rfl rfl z_su rfl q_full z_fp z_ss ?_; refine s_o [(10, _)] rfl rfl rfl z_su rfl q_move z_fp z_ss ?_; exact wpS_nil ⟨rfl, rfl⟩)) z_su ?_; clear z_ex)
    ((repeat refine WpM.seq ?_); have z_ex := True.intro; refine WpM.regPE [] [(0, _), (1, _), (5, _), (6, _)] (by (refine s_o [] rfl rfl rfl z_su rfl q_move z_fp z_ss ?_; exact wpS_nil ⟨rfl, rfl⟩)) z_su ?_; clear z_ex)
    ((repeat refine WpM.seq ?_); have z_ex := True.intro; refine WpM.regPE [] [(0, _), (5, _), (6, _), (12, _)] (by (refine s_o [(1, _)] rfl rfl rfl z_su rfl q_move z_fp z_ss ?_; refine s_o [(11, _)] rfl rfl rfl z_su rfl q_full z_fp z_ss ?_; exact wpS_nil ⟨rfl, rfl⟩)) z_su ?_; clear z_ex)
    ((repeat refine WpM.seq ?_); refine WpM.condT (by (simp (maxSteps := 2000000) (disch := omega) [go_sem, -List.map_map, hv])) ?_)
    ((repeat refine WpM.seq ?_); have z_ex := True.intro; refine WpM.regPE [] [(0, _), (5, _), (6, _)] (by (refine s_o [] rfl rfl rfl z_su rfl q_move z_fp z_ss ?_; exact wpS_nil ⟨rfl, rfl⟩)) z_su ?_; clear z_ex)
    cases hkl : K (- -(v : Int)) with
    | true =>
      have hsd : side K v = 1 := by
        have : K (-(v : Int)) = false := by cases e : K (-(v : Int)) with | false => rfl | true => rw [hk e] at hkl; cases hkl
        rw [Int.neg_neg] at hkl; simp [side, hkl]
      rw [hsd] at hget
      ((repeat refine WpM.seq ?_); have z_ex := (And.intro @hS (And.intro @hget (And.intro @wrap_m1 (And.intro @wrap_p1 (And.intro @wrap_0sub (And.intro @wrap_neg True.intro)))))); refine WpM.regPE [] [(0, _), (5, _), (6, _), (19, _)] (by (refine s_o [(0, _)] rfl rfl rfl z_su rfl q_move z_fp z_ss ?_; refine s_o [(5, _)] rfl rfl rfl z_su rfl q_move z_fp z_ss ?_; refine s_o [(13, _), (14, _)] rfl rfl rfl z_su rfl q_full z_fp z_ss ?_; refine s_o [(15, _)] rfl rfl rfl z_su rfl q_load z_fp z_ss ?_; refine s_o [(6, _)] rfl rfl rfl z_su rfl q_move z_fp z_ss ?_; refine s_o [(17, _)] rfl rfl rfl z_su rfl q_unOp z_fp z_ss ?_; refine s_o [(16, _), (18, _)] rfl rfl rfl z_su rfl q_full z_fp z_ss ?_; exact wpS_nil ⟨rfl, rfl⟩)) z_su ?_; clear z_ex)
      ((repeat refine WpM.seq ?_); refine WpM.condT (by (simp (maxSteps := 2000000) (disch := omega) [go_sem, -List.map_map])) ?_)
      ((repeat refine WpM.seq ?_); have z_ex := True.intro; refine WpM.regPE [] [(4, _)] (by (refine s_o [] rfl rfl rfl z_su rfl q_move z_fp z_ss ?_; exact wpS_nil ⟨rfl, rfl⟩)) z_su ?_; clear z_ex)
      refine WpM.ret ?_
      exact ⟨.inr rfl, Upd.done ⟨.d (.bool false), (by (simp (maxSteps := 2000000) (disch := omega) [go_sem, -List.map_map, resV, resVs, resV1])), rfl, (by show n0 ≤ n0 + 18; omega), fun m k _ hm => hm, hS⟩⟩
    | false =>
      have hsd : ¬ side K v = 1 := by rw [Int.neg_neg] at hkl; unfold side; simp only [hkl, Bool.false_eq_true, if_false]; split <;> simp
      have hse := hset (-1) (.inr ⟨rfl, rfl⟩) hkl
      ((repeat refine WpM.seq ?_); have z_ex := (And.intro @hS (And.intro @hget (And.intro @hsd (And.intro @wrap_m1 (And.intro @wrap_p1 (And.intro @wrap_0sub (And.intro @wrap_neg True.intro))))))); refine WpM.regPE [] [(0, _), (5, _), (6, _), (19, _)] (by (refine s_o [(0, _)] rfl rfl rfl z_su rfl q_move z_fp z_ss ?_; refine s_o [(5, _)] rfl rfl rfl z_su rfl q_move z_fp z_ss ?_; refine s_o [(13, _), (14, _)] rfl rfl rfl z_su rfl q_full z_fp z_ss ?_; refine s_o [(15, _)] rfl rfl rfl z_su rfl q_load z_fp z_ss ?_; refine s_o [(6, _)] rfl rfl rfl z_su rfl q_move z_fp z_ss ?_; refine s_o [(17, _)] rfl rfl rfl z_su rfl q_unOp z_fp z_ss ?_; refine s_o [(16, _), (18, _)] rfl rfl rfl z_su rfl q_full z_fp z_ss ?_; exact wpS_nil ⟨rfl, rfl⟩)) z_su ?_; clear z_ex)
      ((repeat refine WpM.seq ?_); refine WpM.condF (by (simp (maxSteps := 2000000) (disch := omega) [go_sem, -List.map_map, hsd])) ?_)
      refine WpM.skip ?_
      ((repeat refine WpM.seq ?_); have z_ex := (And.intro @hS (And.intro @hget (And.intro @wrap_neg True.intro))); refine WpM.regPE [] [] (by (refine s_o [(0, _)] rfl rfl rfl z_su rfl q_move z_fp z_ss ?_; refine s_o [(5, _)] rfl rfl rfl z_su rfl q_move z_fp z_ss ?_; refine s_o [(6, _)] rfl rfl rfl z_su rfl q_move z_fp z_ss ?_; refine s_o [(20, _), (21, _)] rfl rfl rfl z_su rfl q_full z_fp z_ss ?_; refine s_o [(22, _), (23, _)] rfl rfl rfl z_su rfl q_store z_fp z_ss ?_; exact wpS_nil ⟨rfl, rfl⟩)) z_su ?_; clear z_ex)
      ((repeat refine WpM.seq ?_); have z_ex := True.intro; refine WpM.regPE [] [(4, _)] (by (refine s_o [] rfl rfl rfl z_su rfl q_move z_fp z_ss ?_; exact wpS_nil ⟨rfl, rfl⟩)) z_su ?_; clear z_ex)
      refine WpM.ret ?_
      refine ⟨.inr rfl, Upd.done ⟨.d (.bool true), (by (simp (maxSteps := 2000000) (disch := omega) [go_sem, -List.map_map, resV, resVs, resV1])), rfl, (by show n0 ≤ n0 + 23; omega), fun m k hm hk => by (simp (maxSteps := 2000000) (disch := omega) [go_sem, -List.map_map, hm, hk]), ?_⟩⟩
      (simp (maxSteps := 2000000) (disch := omega) [go_sem, -List.map_map, hse])
end Go.Proofs.Ytafeehlpmdligaa
