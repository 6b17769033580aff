/- proof.(*checker).plain$1: a literal is put. -/
import Derived.Test.YtafeehlpmdligaaRMd
import Derived.Test.YtafeehlpmdligaaROp
import Derived.Test.YtafeehlpmdligaaRAdd66
namespace Go.Proofs.Ytafeehlpmdligaa
open Go.RowKit M
set_option linter.unusedSimpArgs false
set_option linter.unusedVariables false
theorem wrap_0sub {x : Int} (h1 : -9223372036854775808 < x) (h2 : x ≤ 9223372036854775807) : IntKind.i64.wrap (0 - x) = -x := by
  rw [IntKind.wrap_i64]; omega
/-- The set of what is put: the map's content. -/
def setM (s : Int → Bool) : D → Option V := fun d => match d with | .int .i64 n => if s n then some (.d (.agg [])) else none | _ => none
set_option maxHeartbeats 8000000 in
theorem put64_no (l : Int) (hl1 : -4096 ≤ l) (hl2 : l ≤ 4096) (s : Int → Bool) (hs : s (-l) = true) (bm nm bq : Nat) (S : St) (hm : S.get bm = some (.box [.map nm])) (hmm : S.get nm = some (.map (.int .i64) (setM s))) : PureS Try.prog 64 [.d (.int .i64 l), .ptr bm 0, .ptr bq 0] (.d (.bool false)) S := by
  refine PureS.of (n := 32) Try.func64 rfl rfl (by simp) (by simp only [argL, Nat.reduceAdd] <;> rfl) rfl ?_
  intro n0 H hH0 hH
  rw [hH0] at hm hmm
  ((repeat refine WpM.seq ?_); have z_ex := True.intro; refine WpM.regPE [] [(0, _), (1, _), (2, _)] (by (refine s_o [] rfl rfl rfl z_su rfl q_move z_fp z_ss ?_; exact wpS_nil ⟨rfl, rfl⟩)) z_su ?_; clear z_ex)
  ((repeat refine WpM.seq ?_); have z_ex := (And.intro @hm (And.intro @hmm (And.intro @setM.eq_1 (And.intro @hs (And.intro @wrap_neg (And.intro @wrap_0sub True.intro)))))); refine WpM.regPE [] [(0, _), (1, _), (2, _), (6, _)] (by (refine s_o [(1, _)] rfl rfl rfl z_su rfl q_load z_fp z_ss ?_; refine s_o [(0, _)] rfl rfl rfl z_su rfl q_move z_fp z_ss ?_; refine s_o [(11, _)] rfl rfl rfl z_su rfl q_unOp z_fp z_ss ?_; refine s_o [(10, _), (12, _)] rfl rfl rfl z_su rfl q_lookup z_fp z_ss ?_; refine s_o [(13, _)] rfl rfl rfl z_su rfl q_move z_fp z_ss ?_; refine s_o [(9, _)] rfl rfl rfl z_su rfl q_extract z_fp z_ss ?_; refine s_o [(9, _)] rfl rfl rfl z_su rfl q_extract z_fp z_ss ?_; refine s_o [] rfl rfl rfl z_su rfl q_alloc z_fp z_ss ?_; refine s_o [(5, _), (14, _)] rfl rfl rfl z_su rfl q_store z_fp z_ss ?_; refine s_o [(15, _)] rfl rfl rfl z_su rfl q_move z_fp z_ss ?_; exact wpS_nil ⟨rfl, rfl⟩)) z_su ?_; clear z_ex)
  ((repeat refine WpM.seq ?_); have z_ex := True.intro; refine WpM.regPE [] [(0, _), (1, _), (2, _), (16, _)] (by (refine s_o [(6, _)] rfl rfl rfl z_su rfl q_move z_fp z_ss ?_; exact wpS_nil ⟨rfl, rfl⟩)) z_su ?_; clear z_ex)
  ((repeat refine WpM.seq ?_); refine WpM.condT (by (simp (maxSteps := 2000000) (disch := omega) [go_sem, -List.map_map])) ?_)
  ((repeat refine WpM.seq ?_); have z_ex := True.intro; refine WpM.regPE [] [(4, _)] (by (refine s_o [] rfl rfl rfl z_su rfl q_move z_fp z_ss ?_; exact wpS_nil ⟨rfl, rfl⟩)) z_su ?_; clear z_ex)
  (refine WpM.ret ?_; refine ⟨.inr rfl, Upd.done ?_⟩; (simp (maxSteps := 2000000) (disch := omega) [go_sem, -List.map_map, resV, resVs, resV1,]))
set_option maxHeartbeats 8000000 in
theorem put64_old (l : Int) (hl1 : -4096 ≤ l) (hl2 : l ≤ 4096) (s : Int → Bool) (hs : s (-l) = false) (hs2 : s l = true) (bm nm bq : Nat) (S : St) (hm : S.get bm = some (.box [.map nm])) (hmm : S.get nm = some (.map (.int .i64) (setM s))) : PureS Try.prog 64 [.d (.int .i64 l), .ptr bm 0, .ptr bq 0] (.d (.bool true)) S := by
  refine PureS.of (n := 32) Try.func64 rfl rfl (by simp) (by simp only [argL, Nat.reduceAdd] <;> rfl) rfl ?_
  intro n0 H hH0 hH
  rw [hH0] at hm hmm
  have hmn : bm < n0 := hH _ _ hm
  have hnn : nm < n0 := hH _ _ hmm
  ((repeat refine WpM.seq ?_); have z_ex := True.intro; refine WpM.regPE [] [(0, _), (1, _), (2, _)] (by (refine s_o [] rfl rfl rfl z_su rfl q_move z_fp z_ss ?_; exact wpS_nil ⟨rfl, rfl⟩)) z_su ?_; clear z_ex)
  ((repeat refine WpM.seq ?_); have z_ex := (And.intro @hm (And.intro @hmm (And.intro @setM.eq_1 (And.intro @hs (And.intro @wrap_neg (And.intro @wrap_0sub True.intro)))))); refine WpM.regPE [] [(0, _), (1, _), (2, _), (6, _)] (by (refine s_o [(1, _)] rfl rfl rfl z_su rfl q_load z_fp z_ss ?_; refine s_o [(0, _)] rfl rfl rfl z_su rfl q_move z_fp z_ss ?_; refine s_o [(11, _)] rfl rfl rfl z_su rfl q_unOp z_fp z_ss ?_; refine s_o [(10, _), (12, _)] rfl rfl rfl z_su rfl q_lookup z_fp z_ss ?_; refine s_o [(13, _)] rfl rfl rfl z_su rfl q_move z_fp z_ss ?_; refine s_o [(9, _)] rfl rfl rfl z_su rfl q_extract z_fp z_ss ?_; refine s_o [(9, _)] rfl rfl rfl z_su rfl q_extract z_fp z_ss ?_; refine s_o [] rfl rfl rfl z_su rfl q_alloc z_fp z_ss ?_; refine s_o [(5, _), (14, _)] rfl rfl rfl z_su rfl q_store z_fp z_ss ?_; refine s_o [(15, _)] rfl rfl rfl z_su rfl q_move z_fp z_ss ?_; exact wpS_nil ⟨rfl, rfl⟩)) z_su ?_; clear z_ex)
  ((repeat refine WpM.seq ?_); have z_ex := True.intro; refine WpM.regPE [] [(0, _), (1, _), (2, _), (16, _)] (by (refine s_o [(6, _)] rfl rfl rfl z_su rfl q_move z_fp z_ss ?_; exact wpS_nil ⟨rfl, rfl⟩)) z_su ?_; clear z_ex)
  ((repeat refine WpM.seq ?_); refine WpM.condF (by (simp (maxSteps := 2000000) (disch := omega) [go_sem, -List.map_map])) ?_)
  refine WpM.skip ?_
  ((repeat refine WpM.seq ?_); have z_ex := (And.intro @hm (And.intro @hmm (And.intro @setM.eq_1 (And.intro @hs (And.intro @hs2 True.intro))))); refine WpM.regPE [] [(0, _), (1, _), (2, _), (8, _)] (by (refine s_o [(1, _)] rfl rfl rfl z_su rfl q_load z_fp z_ss ?_; refine s_o [(0, _)] rfl rfl rfl z_su rfl q_move z_fp z_ss ?_; refine s_o [(18, _), (19, _)] rfl rfl rfl z_su rfl q_lookup z_fp z_ss ?_; refine s_o [(20, _)] rfl rfl rfl z_su rfl q_move z_fp z_ss ?_; refine s_o [(17, _)] rfl rfl rfl z_su rfl q_extract z_fp z_ss ?_; refine s_o [(17, _)] rfl rfl rfl z_su rfl q_extract z_fp z_ss ?_; refine s_o [] rfl rfl rfl z_su rfl q_alloc z_fp z_ss ?_; refine s_o [(7, _), (21, _)] rfl rfl rfl z_su rfl q_store z_fp z_ss ?_; refine s_o [(22, _)] rfl rfl rfl z_su rfl q_move z_fp z_ss ?_; exact wpS_nil ⟨rfl, rfl⟩)) z_su ?_; clear z_ex)
  ((repeat refine WpM.seq ?_); have z_ex := True.intro; refine WpM.regPE [] [(0, _), (1, _), (2, _), (24, _)] (by (refine s_o [(8, _)] rfl rfl rfl z_su rfl q_move z_fp z_ss ?_; refine s_o [(23, _)] rfl rfl rfl z_su rfl q_unOp z_fp z_ss ?_; exact wpS_nil ⟨rfl, rfl⟩)) z_su ?_; clear z_ex)
  ((repeat refine WpM.seq ?_); refine WpM.condF (by (simp (maxSteps := 2000000) (disch := omega) [go_sem, -List.map_map])) ?_)
  refine WpM.skip ?_
  ((repeat refine WpM.seq ?_); have z_ex := True.intro; refine WpM.regPE [] [(4, _)] (by (refine s_o [] rfl rfl rfl z_su rfl q_move z_fp z_ss ?_; exact wpS_nil ⟨rfl, rfl⟩)) z_su ?_; clear z_ex)
  (refine WpM.ret ?_; refine ⟨.inr rfl, Upd.done ?_⟩; (simp (maxSteps := 2000000) (disch := omega) [go_sem, -List.map_map, resV, resVs, resV1,]))
/-- A new literal: into the set, and onto the queue. -/
def setP (s : Int → Bool) (l : Int) : Int → Bool := fun x => x == l || s x
theorem setM_put (s : Int → Bool) (l : Int) : updD (setM s) (D.int .i64 l) (some (V.d (.agg []))) = setM (setP s l) := by
  funext d
  by_cases h : d = D.int .i64 l
  · subst h
    simp [updD, setM, setP]
  · simp only [updD, h, if_false]
    unfold setM
    split
    · rename_i n
      have : (n == l) = false := by simpa using fun e : n = l => h (by rw [e])
      simp [setP, this]
    · rfl
set_option maxHeartbeats 8000000 in
theorem put64_new (l : Int) (hl1 : -4096 ≤ l) (hl2 : l ≤ 4096) (s : Int → Bool) (hs : s (-l) = false) (hs2 : s l = false) (bm nm bq nq o n : Nat) (xs : List V) (S : St) (hm : S.get bm = some (.box [.map nm])) (hmm : S.get nm = some (.map (.int .i64) (setM s))) (hq : S.get bq = some (.box [.ms nq 1 o n])) (hqq : S.get nq = some (.row 1 xs)) (hon : o + n = xs.length) (hn : n ≤ 100000) (h1 : bm ≠ bq) (h2 : nm ≠ bq) (h3 : nm ≠ nq) (h4 : bq ≠ nq) (h5 : bm ≠ nq) (h6 : bm ≠ nm) :
    CallM Try.prog 64 [.d (.int .i64 l), .ptr bm 0, .ptr bq 0] S fun r S' => r = .d (.bool true) ∧ S.next ≤ S'.next ∧ ∃ nq', S.next ≤ nq' ∧ nq' < S'.next ∧ S'.get nm = some (.map (.int .i64) (setM (setP s l))) ∧ S'.get bq = some (.box [.ms nq' 1 0 (n + 1)]) ∧ S'.get nq' = some (.row 1 ((xs.drop o).take n ++ [.d (.int .i64 l)])) ∧ ∀ m k, m < S.next → m ≠ nm → m ≠ bq → m ≠ nq → S.get m = some k → S'.get m = some k := by
  refine CallM.start (n := 32) Try.func64 rfl rfl (by simp) (by simp only [argL, Nat.reduceAdd] <;> rfl) ?_
  intro hH
  obtain ⟨H, hHe⟩ : ∃ H, H = S.get := ⟨_, rfl⟩
  obtain ⟨n0, hne⟩ : ∃ n0, n0 = S.next := ⟨_, rfl⟩
  rw [← hHe, ← hne] at hH ⊢
  rw [← hHe] at hm hmm hq hqq
  have g1 : bm < n0 := hH _ _ hm
  have g2 : nm < n0 := hH _ _ hmm
  have g3 : bq < n0 := hH _ _ hq
  have g4 : nq < n0 := hH _ _ hqq
  ((repeat refine WpM.seq ?_); have z_ex := True.intro; refine WpM.regPE [] [(0, _), (1, _), (2, _)] (by (refine s_o [] rfl rfl rfl z_su rfl q_move z_fp z_ss ?_; exact wpS_nil ⟨rfl, rfl⟩)) z_su ?_; clear z_ex)
  ((repeat refine WpM.seq ?_); have z_ex := (And.intro @hm (And.intro @hmm (And.intro @setM.eq_1 (And.intro @hs (And.intro @wrap_neg (And.intro @wrap_0sub True.intro)))))); refine WpM.regPE [] [(0, _), (1, _), (2, _), (6, _)] (by (refine s_o [(1, _)] rfl rfl rfl z_su rfl q_load z_fp z_ss ?_; refine s_o [(0, _)] rfl rfl rfl z_su rfl q_move z_fp z_ss ?_; refine s_o [(11, _)] rfl rfl rfl z_su rfl q_unOp z_fp z_ss ?_; refine s_o [(10, _), (12, _)] rfl rfl rfl z_su rfl q_lookup z_fp z_ss ?_; refine s_o [(13, _)] rfl rfl rfl z_su rfl q_move z_fp z_ss ?_; refine s_o [(9, _)] rfl rfl rfl z_su rfl q_extract z_fp z_ss ?_; refine s_o [(9, _)] rfl rfl rfl z_su rfl q_extract z_fp z_ss ?_; refine s_o [] rfl rfl rfl z_su rfl q_alloc z_fp z_ss ?_; refine s_o [(5, _), (14, _)] rfl rfl rfl z_su rfl q_store z_fp z_ss ?_; refine s_o [(15, _)] rfl rfl rfl z_su rfl q_move z_fp z_ss ?_; exact wpS_nil ⟨rfl, rfl⟩)) z_su ?_; clear z_ex)
  ((repeat refine WpM.seq ?_); have z_ex := True.intro; refine WpM.regPE [] [(0, _), (1, _), (2, _), (16, _)] (by (refine s_o [(6, _)] rfl rfl rfl z_su rfl q_move z_fp z_ss ?_; exact wpS_nil ⟨rfl, rfl⟩)) z_su ?_; clear z_ex)
  ((repeat refine WpM.seq ?_); refine WpM.condF (by (simp (maxSteps := 2000000) (disch := omega) [go_sem, -List.map_map])) ?_)
  refine WpM.skip ?_
  ((repeat refine WpM.seq ?_); have z_ex := (And.intro @hm (And.intro @hmm (And.intro @setM.eq_1 (And.intro @hs (And.intro @hs2 True.intro))))); refine WpM.regPE [] [(0, _), (1, _), (2, _), (8, _)] (by (refine s_o [(1, _)] rfl rfl rfl z_su rfl q_load z_fp z_ss ?_; refine s_o [(0, _)] rfl rfl rfl z_su rfl q_move z_fp z_ss ?_; refine s_o [(18, _), (19, _)] rfl rfl rfl z_su rfl q_lookup z_fp z_ss ?_; refine s_o [(20, _)] rfl rfl rfl z_su rfl q_move z_fp z_ss ?_; refine s_o [(17, _)] rfl rfl rfl z_su rfl q_extract z_fp z_ss ?_; refine s_o [(17, _)] rfl rfl rfl z_su rfl q_extract z_fp z_ss ?_; refine s_o [] rfl rfl rfl z_su rfl q_alloc z_fp z_ss ?_; refine s_o [(7, _), (21, _)] rfl rfl rfl z_su rfl q_store z_fp z_ss ?_; refine s_o [(22, _)] rfl rfl rfl z_su rfl q_move z_fp z_ss ?_; exact wpS_nil ⟨rfl, rfl⟩)) z_su ?_; clear z_ex)
  ((repeat refine WpM.seq ?_); have z_ex := True.intro; refine WpM.regPE [] [(0, _), (1, _), (2, _), (24, _)] (by (refine s_o [(8, _)] rfl rfl rfl z_su rfl q_move z_fp z_ss ?_; refine s_o [(23, _)] rfl rfl rfl z_su rfl q_unOp z_fp z_ss ?_; exact wpS_nil ⟨rfl, rfl⟩)) z_su ?_; clear z_ex)
  ((repeat refine WpM.seq ?_); refine WpM.condT (by (simp (maxSteps := 2000000) (disch := omega) [go_sem, -List.map_map])) ?_)
  ((repeat refine WpM.seq ?_); have z_ex := (And.intro @hm (And.intro @hmm True.intro)); refine WpM.regPE [] [(0, _), (2, _)] (by (refine s_o [(1, _)] rfl rfl rfl z_su rfl q_load z_fp z_ss ?_; refine s_o [(0, _)] rfl rfl rfl z_su rfl q_move z_fp z_ss ?_; refine s_o [] rfl rfl rfl z_su rfl q_build z_fp z_ss ?_; refine s_o [(25, _), (26, _), (27, _)] rfl rfl rfl z_su rfl q_mapUpdate z_fp z_ss ?_; exact wpS_nil ⟨rfl, rfl⟩)) z_su ?_; clear z_ex)
  ((repeat refine WpM.seq ?_); have z_ex := (And.intro @hq (And.intro @hqq (And.intro @hon True.intro))); refine WpM.regPE [] [] (by (refine s_o [(2, _)] rfl rfl rfl z_su rfl q_load z_fp z_ss ?_; refine s_o [(0, _)] rfl rfl rfl z_su rfl q_move z_fp z_ss ?_; refine s_o [(29, _)] rfl rfl rfl z_su rfl q_full z_fp z_ss ?_; refine s_o [(28, _), (30, _)] rfl rfl rfl z_su rfl q_full z_fp z_ss ?_; refine s_o [(2, _), (31, _)] rfl rfl rfl z_su rfl q_store z_fp z_ss ?_; exact wpS_nil ⟨rfl, rfl⟩)) z_su ?_; clear z_ex)
  ((repeat refine WpM.seq ?_); have z_ex := True.intro; refine WpM.regPE [] [(4, _)] (by (refine s_o [] rfl rfl rfl z_su rfl q_move z_fp z_ss ?_; exact wpS_nil ⟨rfl, rfl⟩)) z_su ?_; clear z_ex)
  refine WpM.ret ?_
  refine ⟨.inr rfl, Upd.done ⟨_, (by (simp (maxSteps := 2000000) (disch := omega) [go_sem, -List.map_map, resV, resVs, resV1])), rfl, (by show n0 ≤ n0 + 33; omega), n0 + 30, (by omega), (by show n0 + 30 < n0 + 33; omega), ?_, ?_, ?_, ?_⟩⟩
  · (simp (maxSteps := 2000000) (disch := omega) [go_sem, -List.map_map, setM_put])
  · (simp (maxSteps := 2000000) (disch := omega) [go_sem, -List.map_map])
  · (simp (maxSteps := 2000000) (disch := omega) [go_sem, -List.map_map])
  · intro m k hm h7 h8 h9 hk
    (simp (maxSteps := 2000000) (disch := omega) [go_sem, -List.map_map, hk, h7, h8, h9])
end Go.Proofs.Ytafeehlpmdligaa
