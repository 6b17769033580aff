/- assizeref17.models, Models, Count. -/
import Derived.Test.YtafeehlpmdligaaQOp
import Derived.Test.YtafeehlpmdligaaQSvW
namespace Go.Proofs.Ytafeehlpmdligaa
open Go.RowKit M
set_option linter.unusedSimpArgs false
set_option linter.unusedVariables false
theorem modelsF_np {cs : List (List Int)} {k : Nat} {ms : List Bool} {v : Nat} {most : Int} (h : most ≤ 0) : modelsF cs k ms v most = 0 := by
  cases k <;> rw [modelsF, if_pos h]
theorem modelsF_shut {cs : List (List Int)} {k : Nat} {ms : List Bool} {v : Nat} {most : Int} (h : cs.all (openC ms v) = false) : modelsF cs k ms v most = 0 := by
  cases k <;> (rw [modelsF]; split; rfl; rw [if_neg (by rw [h]; decide)])
theorem set_same_get {ms : List Bool} {v : Nat} (h : ms.getD v false = false) (hv : v < ms.length) : ms.set v false = ms := by
  refine List.ext_getElem (by simp) fun i h1 h2 => ?_
  rw [List.getElem_set]
  split
  · rename_i e
    subst e
    simpa [h2] using h.symm
  · rfl
theorem any_take {α : Type} {p : α → Bool} {l : List α} {j : Nat} (h : j < l.length) : (l.take (j + 1)).any p = ((l.take j).any p || p l[j]) := by
  rw [List.take_succ_eq_append_getElem h, List.any_append]
  simp
theorem all_take {α : Type} {p : α → Bool} {l : List α} {j : Nat} (h : j < l.length) : (l.take (j + 1)).all p = ((l.take j).all p && p l[j]) := by
  rw [List.take_succ_eq_append_getElem h, List.all_append]
  simp
set_option maxHeartbeats 8000000 in
theorem models63 (n : Nat) (cs : List (List Int)) (hn : n ≤ 4096) (hl : litsOk n cs) (hcl : cs.length ≤ 1048576) (hcs : ∀ c ∈ cs, c.length ≤ 1048576) : ∀ (k v : Nat) (ms : List Bool) (most : Int) (nm : Nat) (S : St), v + k = n + 1 → 1 ≤ v → -9223372036854775808 ≤ most → most ≤ 9223372036854775807 → ms.length = n + 1 → (∀ u, v ≤ u → ms.getD u false = false) → S.get nm = some (.row 1 (ms.map bl)) →
    PureS Try.prog 63 [.d (cnf n cs), .ms nm 1 0 (n + 1), .d (.int .i64 v), .d (.int .i64 most)] (.d (.int .i64 (modelsF cs k ms v most))) S := by
  intro k
  induction k using Nat.strongRecOn with
  | _ k ih =>
  intro v ms most nm S hvk hv1 hm1 hm2 hms hz hrow
  refine CallM.pure' (by rfl) (CallM.start (n := 94) Try.func63 rfl rfl (by simp) (by simp only [argL, Nat.reduceAdd] <;> rfl) ?_)
  intro hH
  obtain ⟨H, hHe⟩ : ∃ H, H = S.get := ⟨_, rfl⟩
  obtain ⟨n0, hne⟩ : ∃ n0, n0 = S.next := ⟨_, rfl⟩
  rw [← hHe, ← hne] at hH ⊢
  rw [← hHe] at hrow
  have g1 := hH _ _ hrow
  have hnn0 : n0 ≠ nm := by omega
  have keep0 : ∀ nx, ∀ m k, m < n0 → H m = some k → St.get ⟨nx, [(n0, some (.box [.d (.int .i64 n), .d (cls cs)]))], H⟩ m = some k := by
    intro nx m k hm hk
    (simp (maxSteps := 2000000) (disch := omega) [go_sem, -List.map_map, hk])
  ((repeat refine WpM.seq ?_); have z_ex := (And.intro @cnf.eq_1 True.intro); refine WpM.regPE [] [(1, _), (2, _), (3, _), (4, _)] (by (refine s_o [(0, _)] rfl rfl rfl z_su rfl q_box z_fp z_ss ?_; refine s_o [] rfl rfl rfl z_su rfl q_move z_fp z_ss ?_; exact wpS_nil ⟨rfl, rfl⟩)) z_su ?_; clear z_ex)
  by_cases hm0 : most ≤ 0
  · rw [modelsF_np hm0]
    ((repeat refine WpM.seq ?_); have z_ex := (And.intro @hm0 True.intro); refine WpM.regPE [] [(1, _), (2, _), (3, _), (4, _), (16, _)] (by (refine s_o [(3, _)] rfl rfl rfl z_su rfl q_move z_fp z_ss ?_; refine s_o [(15, _)] rfl rfl rfl z_su rfl q_full z_fp z_ss ?_; exact wpS_nil ⟨rfl, rfl⟩)) z_su ?_; clear z_ex)
    ((repeat refine WpM.seq ?_); refine WpM.condT (by (simp (maxSteps := 2000000) (disch := omega) [go_sem, -List.map_map])) ?_)
    ((repeat refine WpM.seq ?_); have z_ex := True.intro; refine WpM.regPE [] [(8, _)] (by (refine s_o [] rfl rfl rfl z_su rfl q_move z_fp z_ss ?_; exact wpS_nil ⟨rfl, rfl⟩)) z_su ?_; clear z_ex)
    refine WpM.ret ?_
    exact ⟨.inr rfl, Upd.done ⟨.d (.int .i64 0), (by (simp (maxSteps := 2000000) (disch := omega) [go_sem, -List.map_map, resV, resVs, resV1])), rfl, keep0 _⟩⟩
  ((repeat refine WpM.seq ?_); have z_ex := (And.intro @hm0 True.intro); refine WpM.regPE [] [(1, _), (2, _), (3, _), (4, _), (16, _)] (by (refine s_o [(3, _)] rfl rfl rfl z_su rfl q_move z_fp z_ss ?_; refine s_o [(15, _)] rfl rfl rfl z_su rfl q_full z_fp z_ss ?_; exact wpS_nil ⟨rfl, rfl⟩)) z_su ?_; clear z_ex)
  ((repeat refine WpM.seq ?_); refine WpM.condF (by (simp (maxSteps := 2000000) (disch := omega) [go_sem, -List.map_map, hm0])) ?_)
  refine WpM.skip ?_
  ((repeat refine WpM.seq ?_); have z_ex := True.intro; refine WpM.regPE [] [(1, _), (2, _), (3, _), (4, _), (9, _)] (by (refine s_o [] rfl rfl rfl z_su rfl q_move z_fp z_ss ?_; exact wpS_nil ⟨rfl, rfl⟩)) z_su ?_; clear z_ex)
  ((repeat refine WpM.seq ?_); refine WpM.block ?_)
  refine WpM.loop (fun (i : Nat) fr S => i ≤ cs.length ∧ (cs.take i).all (openC ms v) = true ∧ (∃ nx, n0 < nx ∧ S = ⟨nx, [(n0, some (.box [.d (.int .i64 n), .d (cls cs)]))], H⟩) ∧ fr = frOf [(1, .ms nm 1 0 (n + 1)), (2, .d (.int .i64 v)), (3, .d (.int .i64 most)), (4, .ptr n0 0), (9, .d (.int .i64 i))]) (fun i => cs.length - i) 0 (St.Le.refl _) (Sub.le z_su) ⟨by omega, rfl, ⟨_, by omega, rfl⟩, rfl⟩ ?_
  rintro i fr S' ⟨hi, hall, ⟨nx, hnx, rfl⟩, rfl⟩
  ((repeat refine WpM.seq ?_); have z_ex := (And.intro @cls.eq_1 True.intro); refine WpM.regPE [] [(1, _), (2, _), (3, _), (4, _), (9, _), (21, _)] (by (refine s_o [(9, _)] rfl rfl rfl z_su rfl q_move z_fp z_ss ?_; refine s_o [(4, _)] rfl rfl rfl z_su rfl q_fieldAddr z_fp z_ss ?_; refine s_o [(18, _)] rfl rfl rfl z_su rfl q_load z_fp z_ss ?_; refine s_o [(19, _)] rfl rfl rfl z_su rfl q_full z_fp z_ss ?_; refine s_o [(17, _), (20, _)] rfl rfl rfl z_su rfl q_full z_fp z_ss ?_; exact wpS_nil ⟨rfl, rfl⟩)) z_su ?_; clear z_ex)
  by_cases hlt : i < cs.length
  · ((repeat refine WpM.seq ?_); refine WpM.condT (by (simp (maxSteps := 2000000) (disch := omega) [go_sem, -List.map_map, hlt])) ?_)
    refine WpM.skip ?_
    ((repeat refine WpM.seq ?_); refine WpM.block ?_)
    obtain ⟨c, hce⟩ : ∃ c, c = cs[i] := ⟨_, rfl⟩
    have hcm : c ∈ cs := hce ▸ List.getElem_mem _
    have hcl2 := hcs c hcm
    have hget : (cs.map ints)[i]? = some (ints c) := by rw [lens cs i hlt, hce]
    ((repeat refine WpM.seq ?_); have z_ex := True.intro; refine WpM.regPE [] [(1, _), (2, _), (3, _), (4, _), (9, _), (10, _)] (by (refine s_o [] rfl rfl rfl z_su rfl q_move z_fp z_ss ?_; exact wpS_nil ⟨rfl, rfl⟩)) z_su ?_; clear z_ex)
    ((repeat refine WpM.seq ?_); have z_ex := True.intro; refine WpM.regPE [] [(1, _), (2, _), (3, _), (4, _), (9, _), (10, _), (11, _)] (by (refine s_o [] rfl rfl rfl z_su rfl q_move z_fp z_ss ?_; exact wpS_nil ⟨rfl, rfl⟩)) z_su ?_; clear z_ex)
    ((repeat refine WpM.seq ?_); refine WpM.block ?_)
    refine WpM.loop (fun (x : Nat × Bool) fr S => x.1 ≤ c.length ∧ x.2 = openC ms v (c.take x.1) ∧ (∃ nx, n0 < nx ∧ S = ⟨nx, [(n0, some (.box [.d (.int .i64 n), .d (cls cs)]))], H⟩) ∧ fr = frOf [(1, .ms nm 1 0 (n + 1)), (2, .d (.int .i64 v)), (3, .d (.int .i64 most)), (4, .ptr n0 0), (9, .d (.int .i64 i)), (10, .d (.bool x.2)), (11, .d (.int .i64 x.1))]) (fun x => c.length - x.1) (0, false) (St.Le.refl _) (Sub.le z_su) ⟨by simp, rfl, ⟨_, by omega, rfl⟩, rfl⟩ ?_
    rintro ⟨j, o⟩ fr S' ⟨hj, ho, ⟨nx, hnx, rfl⟩, rfl⟩
    simp only at hj ho
    have hdone : o = true → openC ms v c = true := fun h => by
      rw [h] at ho
      unfold openC at ho ⊢
      obtain ⟨l, hl1, hl2⟩ := List.any_eq_true.1 ho.symm
      exact List.any_eq_true.2 ⟨l, List.mem_of_mem_take hl1, hl2⟩
    have hnext : openC ms v c = true → (cs.take (i + 1)).all (openC ms v) = true := fun h => by
      rw [all_take hlt, hall, ← hce, h]; rfl
    by_cases hjt : j < c.length
    · cases o with
      | true =>
        ((repeat refine WpM.seq ?_); have z_ex := (And.intro @hget (And.intro @cls.eq_1 (And.intro @ints.eq_1 (And.intro @hjt True.intro)))); refine WpM.regPE [] [(1, _), (2, _), (3, _), (4, _), (9, _), (10, _), (11, _), (35, _)] (by (refine s_o [(11, _)] rfl rfl rfl z_su rfl q_move z_fp z_ss ?_; refine s_o [(4, _)] rfl rfl rfl z_su rfl q_fieldAddr z_fp z_ss ?_; refine s_o [(25, _)] rfl rfl rfl z_su rfl q_load z_fp z_ss ?_; refine s_o [(9, _)] rfl rfl rfl z_su rfl q_move z_fp z_ss ?_; refine s_o [(26, _), (27, _)] rfl rfl rfl z_su rfl q_full z_fp z_ss ?_; refine s_o [(28, _)] rfl rfl rfl z_su rfl q_load z_fp z_ss ?_; refine s_o [(29, _)] rfl rfl rfl z_su rfl q_full z_fp z_ss ?_; refine s_o [(24, _), (30, _)] rfl rfl rfl z_su rfl q_full z_fp z_ss ?_; refine s_o [(31, _)] rfl rfl rfl z_su rfl q_move z_fp z_ss ?_; refine s_wit ?_; intro z_g; (first | refine s_skip rfl z_g z_fp ?_ | (refine s_o [(10, _)] rfl z_g rfl z_su rfl q_move z_fp z_ss ?_)); clear z_g; refine s_wit ?_; intro z_g; (first | refine s_skip rfl z_g z_fp ?_ | (refine s_o [(33, _)] rfl z_g rfl z_su rfl q_unOp z_fp z_ss ?_)); clear z_g; refine s_o [(32, _), (34, _)] rfl rfl rfl z_su rfl q_move z_fp z_ss ?_; exact wpS_nil ⟨rfl, rfl⟩)) z_su ?_; clear z_ex)
        ((repeat refine WpM.seq ?_); refine WpM.condF (by (simp (maxSteps := 2000000) (disch := omega) [go_sem, -List.map_map, hjt])) ?_)
        (refine WpM.exit ?_; (repeat (with_reducible (first | refine thenM_exit ?_ | refine blockM_eq ?_ | refine blockM_ne (by decide) ?_))))
        ((repeat refine WpM.seq ?_); have z_ex := True.intro; refine WpM.regPE [] [(1, _), (2, _), (3, _), (4, _), (9, _), (63, _)] (by (refine s_o [(10, _)] rfl rfl rfl z_su rfl q_move z_fp z_ss ?_; refine s_o [(62, _)] rfl rfl rfl z_su rfl q_unOp z_fp z_ss ?_; exact wpS_nil ⟨rfl, rfl⟩)) z_su ?_; clear z_ex)
        ((repeat refine WpM.seq ?_); refine WpM.condF (by (simp (maxSteps := 2000000) (disch := omega) [go_sem, -List.map_map])) ?_)
        refine WpM.skip ?_
        refine blockM_norm ?_
        ((repeat refine WpM.seq ?_); have z_ex := (And.intro @wrap_id True.intro); refine WpM.regPE [] [(1, _), (2, _), (3, _), (4, _), (9, _)] (by (refine s_o [(9, _)] rfl rfl rfl z_su rfl q_move z_fp z_ss ?_; refine s_o [(22, _)] rfl rfl rfl z_su rfl q_full z_fp z_ss ?_; refine s_o [(23, _)] rfl rfl rfl z_su rfl q_move z_fp z_ss ?_; exact wpS_nil ⟨rfl, rfl⟩)) z_su ?_; clear z_ex)
        exact round_end (x' := i + 1) (St.Le.refl _) (Sub.le z_su) ⟨by omega, hnext (hdone rfl), ⟨_, by omega, rfl⟩, rfl⟩ (by omega)
      | false =>
        ((repeat refine WpM.seq ?_); have z_ex := (And.intro @hget (And.intro @cls.eq_1 (And.intro @ints.eq_1 (And.intro @hjt True.intro)))); refine WpM.regPE [] [(1, _), (2, _), (3, _), (4, _), (9, _), (10, _), (11, _), (35, _)] (by (refine s_o [(11, _)] rfl rfl rfl z_su rfl q_move z_fp z_ss ?_; refine s_o [(4, _)] rfl rfl rfl z_su rfl q_fieldAddr z_fp z_ss ?_; refine s_o [(25, _)] rfl rfl rfl z_su rfl q_load z_fp z_ss ?_; refine s_o [(9, _)] rfl rfl rfl z_su rfl q_move z_fp z_ss ?_; refine s_o [(26, _), (27, _)] rfl rfl rfl z_su rfl q_full z_fp z_ss ?_; refine s_o [(28, _)] rfl rfl rfl z_su rfl q_load z_fp z_ss ?_; refine s_o [(29, _)] rfl rfl rfl z_su rfl q_full z_fp z_ss ?_; refine s_o [(24, _), (30, _)] rfl rfl rfl z_su rfl q_full z_fp z_ss ?_; refine s_o [(31, _)] rfl rfl rfl z_su rfl q_move z_fp z_ss ?_; refine s_wit ?_; intro z_g; (first | refine s_skip rfl z_g z_fp ?_ | (refine s_o [(10, _)] rfl z_g rfl z_su rfl q_move z_fp z_ss ?_)); clear z_g; refine s_wit ?_; intro z_g; (first | refine s_skip rfl z_g z_fp ?_ | (refine s_o [(33, _)] rfl z_g rfl z_su rfl q_unOp z_fp z_ss ?_)); clear z_g; refine s_o [(32, _), (34, _)] rfl rfl rfl z_su rfl q_move z_fp z_ss ?_; exact wpS_nil ⟨rfl, rfl⟩)) z_su ?_; clear z_ex)
        ((repeat refine WpM.seq ?_); refine WpM.condT (by (simp (maxSteps := 2000000) (disch := omega) [go_sem, -List.map_map, hjt])) ?_)
        refine WpM.skip ?_
        ((repeat refine WpM.seq ?_); refine WpM.block ?_)
        obtain ⟨l, hle⟩ : ∃ l, l = c[j] := ⟨_, rfl⟩
        have hlm := hl c hcm l (hle ▸ List.getElem_mem _)
        have hget2 : (c.map (D.int .i64))[j]? = some (.int .i64 l) := by simp [hjt, hle]
        have hab : (if l < -l then -l else l) = (l.natAbs : Int) := by split <;> omega
        have hst : openC ms v (c.take (j + 1)) = (decide (v ≤ l.natAbs) || litT ms l) := by
          unfold openC at ho ⊢
          rw [any_take hjt, ← ho, ← hle]; rfl
        ((repeat refine WpM.seq ?_); have z_ex := (And.intro @hget (And.intro @hget2 (And.intro @cls.eq_1 (And.intro @ints.eq_1 True.intro)))); refine WpM.regPE [] [(1, _), (2, _), (3, _), (4, _), (9, _), (11, _), (12, _)] (by (refine s_o [(4, _)] rfl rfl rfl z_su rfl q_fieldAddr z_fp z_ss ?_; refine s_o [(38, _)] rfl rfl rfl z_su rfl q_load z_fp z_ss ?_; refine s_o [(9, _)] rfl rfl rfl z_su rfl q_move z_fp z_ss ?_; refine s_o [(39, _), (40, _)] rfl rfl rfl z_su rfl q_full z_fp z_ss ?_; refine s_o [(41, _)] rfl rfl rfl z_su rfl q_load z_fp z_ss ?_; refine s_o [(11, _)] rfl rfl rfl z_su rfl q_move z_fp z_ss ?_; refine s_o [(42, _), (43, _)] rfl rfl rfl z_su rfl q_full z_fp z_ss ?_; refine s_o [(44, _)] rfl rfl rfl z_su rfl q_load z_fp z_ss ?_; refine s_o [(45, _)] rfl rfl rfl z_su rfl q_move z_fp z_ss ?_; exact wpS_nil ⟨rfl, rfl⟩)) z_su ?_; clear z_ex)
        ((repeat refine WpM.seq ?_); have z_ex := (And.intro @wrap_0sub (And.intro @wrap_neg (And.intro @hab True.intro))); refine WpM.regPE [] [(1, _), (2, _), (3, _), (4, _), (9, _), (11, _), (12, _), (13, _)] (by (refine s_o [(12, _)] rfl rfl rfl z_su rfl q_move z_fp z_ss ?_; refine s_o [(12, _)] rfl rfl rfl z_su rfl q_move z_fp z_ss ?_; refine s_o [(47, _)] rfl rfl rfl z_su rfl q_unOp z_fp z_ss ?_; refine s_o [(46, _), (48, _)] rfl rfl rfl z_su rfl q_full z_fp z_ss ?_; refine s_o [(49, _)] rfl rfl rfl z_su rfl q_move z_fp z_ss ?_; exact wpS_nil ⟨rfl, rfl⟩)) z_su ?_; clear z_ex)
        by_cases hx : (v : Int) ≤ (l.natAbs : Int)
        · rw [decide_eq_true (show v ≤ l.natAbs by omega), Bool.true_or] at hst
          have hx1 : v ≤ l.natAbs := by omega
          ((repeat refine WpM.seq ?_); have z_ex := (And.intro @hx (And.intro @hx1 True.intro)); refine WpM.regPE [] [(1, _), (2, _), (3, _), (4, _), (9, _), (10, _), (11, _)] (by (refine s_o [(13, _)] rfl rfl rfl z_su rfl q_move z_fp z_ss ?_; refine s_o [(2, _)] rfl rfl rfl z_su rfl q_move z_fp z_ss ?_; refine s_o [(50, _), (51, _)] rfl rfl rfl z_su rfl q_full z_fp z_ss ?_; refine s_o [(52, _)] rfl rfl rfl z_su rfl q_move z_fp z_ss ?_; refine s_wit ?_; intro z_g; (first | refine s_skip rfl z_g z_fp ?_ | (refine s_o [(1, _)] rfl z_g rfl z_su rfl q_move z_fp z_ss ?_)); clear z_g; refine s_wit ?_; intro z_g; (first | refine s_skip rfl z_g z_fp ?_ | (refine s_o [(13, _)] rfl z_g rfl z_su rfl q_move z_fp z_ss ?_)); clear z_g; refine s_wit ?_; intro z_g; (first | refine s_skip rfl z_g z_fp ?_ | (refine s_o [(54, _), (55, _)] rfl z_g rfl z_su rfl q_full z_fp z_ss ?_)); clear z_g; refine s_wit ?_; intro z_g; (first | refine s_skip rfl z_g z_fp ?_ | (refine s_o [(56, _)] rfl z_g rfl z_su rfl q_load z_fp z_ss ?_)); clear z_g; refine s_wit ?_; intro z_g; (first | refine s_skip rfl z_g z_fp ?_ | (refine s_o [(12, _)] rfl z_g rfl z_su rfl q_move z_fp z_ss ?_)); clear z_g; refine s_wit ?_; intro z_g; (first | refine s_skip rfl z_g z_fp ?_ | (refine s_o [(58, _)] rfl z_g rfl z_su rfl q_full z_fp z_ss ?_)); clear z_g; refine s_wit ?_; intro z_g; (first | refine s_skip rfl z_g z_fp ?_ | (refine s_o [(57, _), (59, _)] rfl z_g rfl z_su rfl q_full z_fp z_ss ?_)); clear z_g; refine s_o [(53, _), (60, _)] rfl rfl rfl z_su rfl q_move z_fp z_ss ?_; refine s_o [(61, _)] rfl rfl rfl z_su rfl q_move z_fp z_ss ?_; exact wpS_nil ⟨rfl, rfl⟩)) z_su ?_; clear z_ex)
          refine blockM_norm ?_
          ((repeat refine WpM.seq ?_); have z_ex := (And.intro @wrap_id True.intro); refine WpM.regPE [] [(1, _), (2, _), (3, _), (4, _), (9, _), (10, _), (11, _)] (by (refine s_o [(11, _)] rfl rfl rfl z_su rfl q_move z_fp z_ss ?_; refine s_o [(36, _)] rfl rfl rfl z_su rfl q_full z_fp z_ss ?_; refine s_o [(37, _)] rfl rfl rfl z_su rfl q_move z_fp z_ss ?_; exact wpS_nil ⟨rfl, rfl⟩)) z_su ?_; clear z_ex)
          exact round_end (x' := (j + 1, true)) (St.Le.refl _) (Sub.le z_su) ⟨by simp only; omega, hst.symm, ⟨_, by omega, rfl⟩, rfl⟩ (by simp only; omega)
        · have hx1 : ¬ v ≤ l.natAbs := by omega
          rw [decide_eq_false hx1, Bool.false_or] at hst
          have hgm : (ms.map bl)[l.natAbs]? = some (.d (.bool (ms.getD l.natAbs false))) := by simp [bl, hms, show l.natAbs < n + 1 by omega]
          have hT : litT ms l = (ms.getD l.natAbs false == decide (0 < l)) := rfl
          generalize ms.getD l.natAbs false = b at hgm hT
          ((repeat refine WpM.seq ?_); have z_ex := (And.intro @hx (And.intro @hx1 (And.intro @hrow (And.intro @hgm True.intro)))); refine WpM.regPE [] [(1, _), (2, _), (3, _), (4, _), (9, _), (10, _), (11, _)] (by (refine s_o [(13, _)] rfl rfl rfl z_su rfl q_move z_fp z_ss ?_; refine s_o [(2, _)] rfl rfl rfl z_su rfl q_move z_fp z_ss ?_; refine s_o [(50, _), (51, _)] rfl rfl rfl z_su rfl q_full z_fp z_ss ?_; refine s_o [(52, _)] rfl rfl rfl z_su rfl q_move z_fp z_ss ?_; refine s_wit ?_; intro z_g; (first | refine s_skip rfl z_g z_fp ?_ | (refine s_o [(1, _)] rfl z_g rfl z_su rfl q_move z_fp z_ss ?_)); clear z_g; refine s_wit ?_; intro z_g; (first | refine s_skip rfl z_g z_fp ?_ | (refine s_o [(13, _)] rfl z_g rfl z_su rfl q_move z_fp z_ss ?_)); clear z_g; refine s_wit ?_; intro z_g; (first | refine s_skip rfl z_g z_fp ?_ | (refine s_o [(54, _), (55, _)] rfl z_g rfl z_su rfl q_full z_fp z_ss ?_)); clear z_g; refine s_wit ?_; intro z_g; (first | refine s_skip rfl z_g z_fp ?_ | (refine s_o [(56, _)] rfl z_g rfl z_su rfl q_load z_fp z_ss ?_)); clear z_g; refine s_wit ?_; intro z_g; (first | refine s_skip rfl z_g z_fp ?_ | (refine s_o [(12, _)] rfl z_g rfl z_su rfl q_move z_fp z_ss ?_)); clear z_g; refine s_wit ?_; intro z_g; (first | refine s_skip rfl z_g z_fp ?_ | (refine s_o [(58, _)] rfl z_g rfl z_su rfl q_full z_fp z_ss ?_)); clear z_g; refine s_wit ?_; intro z_g; (first | refine s_skip rfl z_g z_fp ?_ | (refine s_o [(57, _), (59, _)] rfl z_g rfl z_su rfl q_full z_fp z_ss ?_)); clear z_g; refine s_o [(53, _), (60, _)] rfl rfl rfl z_su rfl q_move z_fp z_ss ?_; refine s_o [(61, _)] rfl rfl rfl z_su rfl q_move z_fp z_ss ?_; exact wpS_nil ⟨rfl, rfl⟩)) z_su ?_; clear z_ex)
          refine blockM_norm ?_
          ((repeat refine WpM.seq ?_); have z_ex := (And.intro @wrap_id True.intro); refine WpM.regPE [] [(1, _), (2, _), (3, _), (4, _), (9, _), (10, _), (11, _)] (by (refine s_o [(11, _)] rfl rfl rfl z_su rfl q_move z_fp z_ss ?_; refine s_o [(36, _)] rfl rfl rfl z_su rfl q_full z_fp z_ss ?_; refine s_o [(37, _)] rfl rfl rfl z_su rfl q_move z_fp z_ss ?_; exact wpS_nil ⟨rfl, rfl⟩)) z_su ?_; clear z_ex)
          exact round_end (x' := (j + 1, b == decide (0 < l))) (St.Le.refl _) (Sub.le z_su) ⟨by simp only; omega, by rw [← hT]; exact hst.symm, ⟨_, by omega, rfl⟩, rfl⟩ (by simp only; omega)
    · have hje : j = c.length := by omega
      rw [hje, List.take_length] at ho
      ((repeat refine WpM.seq ?_); have z_ex := (And.intro @hget (And.intro @cls.eq_1 (And.intro @ints.eq_1 (And.intro @hjt True.intro)))); refine WpM.regPE [] [(1, _), (2, _), (3, _), (4, _), (9, _), (10, _), (11, _), (35, _)] (by (refine s_o [(11, _)] rfl rfl rfl z_su rfl q_move z_fp z_ss ?_; refine s_o [(4, _)] rfl rfl rfl z_su rfl q_fieldAddr z_fp z_ss ?_; refine s_o [(25, _)] rfl rfl rfl z_su rfl q_load z_fp z_ss ?_; refine s_o [(9, _)] rfl rfl rfl z_su rfl q_move z_fp z_ss ?_; refine s_o [(26, _), (27, _)] rfl rfl rfl z_su rfl q_full z_fp z_ss ?_; refine s_o [(28, _)] rfl rfl rfl z_su rfl q_load z_fp z_ss ?_; refine s_o [(29, _)] rfl rfl rfl z_su rfl q_full z_fp z_ss ?_; refine s_o [(24, _), (30, _)] rfl rfl rfl z_su rfl q_full z_fp z_ss ?_; refine s_o [(31, _)] rfl rfl rfl z_su rfl q_move z_fp z_ss ?_; refine s_wit ?_; intro z_g; (first | refine s_skip rfl z_g z_fp ?_ | (refine s_o [(10, _)] rfl z_g rfl z_su rfl q_move z_fp z_ss ?_)); clear z_g; refine s_wit ?_; intro z_g; (first | refine s_skip rfl z_g z_fp ?_ | (refine s_o [(33, _)] rfl z_g rfl z_su rfl q_unOp z_fp z_ss ?_)); clear z_g; refine s_o [(32, _), (34, _)] rfl rfl rfl z_su rfl q_move z_fp z_ss ?_; exact wpS_nil ⟨rfl, rfl⟩)) z_su ?_; clear z_ex)
      ((repeat refine WpM.seq ?_); refine WpM.condF (by (simp (maxSteps := 2000000) (disch := omega) [go_sem, -List.map_map, hjt])) ?_)
      (refine WpM.exit ?_; (repeat (with_reducible (first | refine thenM_exit ?_ | refine blockM_eq ?_ | refine blockM_ne (by decide) ?_))))
      cases o with
      | true =>
        ((repeat refine WpM.seq ?_); have z_ex := True.intro; refine WpM.regPE [] [(1, _), (2, _), (3, _), (4, _), (9, _), (63, _)] (by (refine s_o [(10, _)] rfl rfl rfl z_su rfl q_move z_fp z_ss ?_; refine s_o [(62, _)] rfl rfl rfl z_su rfl q_unOp z_fp z_ss ?_; exact wpS_nil ⟨rfl, rfl⟩)) z_su ?_; clear z_ex)
        ((repeat refine WpM.seq ?_); refine WpM.condF (by (simp (maxSteps := 2000000) (disch := omega) [go_sem, -List.map_map])) ?_)
        refine WpM.skip ?_
        refine blockM_norm ?_
        ((repeat refine WpM.seq ?_); have z_ex := (And.intro @wrap_id True.intro); refine WpM.regPE [] [(1, _), (2, _), (3, _), (4, _), (9, _)] (by (refine s_o [(9, _)] rfl rfl rfl z_su rfl q_move z_fp z_ss ?_; refine s_o [(22, _)] rfl rfl rfl z_su rfl q_full z_fp z_ss ?_; refine s_o [(23, _)] rfl rfl rfl z_su rfl q_move z_fp z_ss ?_; exact wpS_nil ⟨rfl, rfl⟩)) z_su ?_; clear z_ex)
        exact round_end (x' := i + 1) (St.Le.refl _) (Sub.le z_su) ⟨by omega, hnext ho.symm, ⟨_, by omega, rfl⟩, rfl⟩ (by omega)
      | false =>
        rw [modelsF_shut (List.all_eq_false.2 ⟨c, hcm, by rw [← ho]; decide⟩)]
        ((repeat refine WpM.seq ?_); have z_ex := True.intro; refine WpM.regPE [] [(1, _), (2, _), (3, _), (4, _), (9, _), (63, _)] (by (refine s_o [(10, _)] rfl rfl rfl z_su rfl q_move z_fp z_ss ?_; refine s_o [(62, _)] rfl rfl rfl z_su rfl q_unOp z_fp z_ss ?_; exact wpS_nil ⟨rfl, rfl⟩)) z_su ?_; clear z_ex)
        ((repeat refine WpM.seq ?_); refine WpM.condT (by (simp (maxSteps := 2000000) (disch := omega) [go_sem, -List.map_map])) ?_)
        ((repeat refine WpM.seq ?_); have z_ex := True.intro; refine WpM.regPE [] [(8, _)] (by (refine s_o [] rfl rfl rfl z_su rfl q_move z_fp z_ss ?_; exact wpS_nil ⟨rfl, rfl⟩)) z_su ?_; clear z_ex)
        refine WpM.ret ?_
        exact ⟨.inr rfl, Upd.done ⟨.d (.int .i64 0), (by (simp (maxSteps := 2000000) (disch := omega) [go_sem, -List.map_map, resV, resVs, resV1])), rfl, keep0 _⟩⟩
  · ((repeat refine WpM.seq ?_); refine WpM.condF (by (simp (maxSteps := 2000000) (disch := omega) [go_sem, -List.map_map, hlt])) ?_)
    (refine WpM.exit ?_; (repeat (with_reducible (first | refine thenM_exit ?_ | refine blockM_eq ?_ | refine blockM_ne (by decide) ?_))))
    obtain rfl : i = cs.length := by omega
    rw [List.take_length] at hall
    cases k with
    | zero =>
      have hvn : (n : Int) < v := by omega
      have hr : modelsF cs 0 ms v most = 1 := by rw [modelsF, if_neg hm0, if_pos hall]
      rw [hr]
      ((repeat refine WpM.seq ?_); have z_ex := (And.intro @hvn True.intro); refine WpM.regPE [] [(1, _), (2, _), (3, _), (4, _), (67, _)] (by (refine s_o [(2, _)] rfl rfl rfl z_su rfl q_move z_fp z_ss ?_; refine s_o [(4, _)] rfl rfl rfl z_su rfl q_fieldAddr z_fp z_ss ?_; refine s_o [(65, _)] rfl rfl rfl z_su rfl q_load z_fp z_ss ?_; refine s_o [(64, _), (66, _)] rfl rfl rfl z_su rfl q_full z_fp z_ss ?_; exact wpS_nil ⟨rfl, rfl⟩)) z_su ?_; clear z_ex)
      ((repeat refine WpM.seq ?_); refine WpM.condT (by (simp (maxSteps := 2000000) (disch := omega) [go_sem, -List.map_map, hvn])) ?_)
      ((repeat refine WpM.seq ?_); have z_ex := True.intro; refine WpM.regPE [] [(8, _)] (by (refine s_o [] rfl rfl rfl z_su rfl q_move z_fp z_ss ?_; exact wpS_nil ⟨rfl, rfl⟩)) z_su ?_; clear z_ex)
      refine WpM.ret ?_
      exact ⟨.inr rfl, Upd.done ⟨.d (.int .i64 1), (by (simp (maxSteps := 2000000) (disch := omega) [go_sem, -List.map_map, resV, resVs, resV1])), rfl, keep0 _⟩⟩
    | succ k =>
      have hvn : ¬ (n : Int) < v := by omega
      have hb : ∀ c ∈ cs, ∀ l ∈ c, l.natAbs < v + 1 + k := fun c hc l hl' => by have := (hl c hc l hl').2; omega
      obtain ⟨m1, hm1e⟩ : ∃ m1, m1 = modelsF cs k (ms.set v false) (v + 1) most := ⟨_, rfl⟩
      obtain ⟨m2, hm2e⟩ : ∃ m2, m2 = modelsF cs k (ms.set v true) (v + 1) (most - m1) := ⟨_, rfl⟩
      have hr : modelsF cs (k + 1) ms v most = m1 + m2 := by rw [modelsF, if_neg hm0, if_pos hall, hm2e, hm1e]
      have r1 : 0 ≤ m1 ∧ m1 ≤ most := by rw [hm1e, modelsF_min k hb]; omega
      have r2 : 0 ≤ m2 ∧ m2 ≤ most - m1 := by rw [hm2e, modelsF_min k hb]; omega
      have c1 := fun S => ih k (by omega) (v + 1) (ms.set v false) most nm S (by omega) (by omega) hm1 hm2 (by simp [hms]) (fun u hu => by rw [getD_setB, if_neg (by omega)]; exact hz u (by omega))
      have c2 := fun S => ih k (by omega) (v + 1) (ms.set v true) (most - m1) nm S (by omega) (by omega) (by omega) (by omega) (by simp [hms]) (fun u hu => by rw [getD_setB, if_neg (by omega)]; exact hz u (by omega))
      rw [← hm1e] at c1
      rw [← hm2e] at c2
      clear hm1e hm2e
      have hvl : v < n + 1 := by omega
      have hvl1 : v < ms.length := by omega
      have w1 : IntKind.i64.wrap (most - m1) = most - m1 := wrap_id (by omega) (by omega)
      have w2 : IntKind.i64.wrap (m1 + m2) = m1 + m2 := wrap_id (by omega) (by omega)
      have w3 : IntKind.i64.wrap ((v : Int) + 1) = ((v + 1 : Nat) : Int) := by rw [wrap_id (by omega) (by omega)]; omega
      rw [hr]
      ((repeat refine WpM.seq ?_); have z_ex := (And.intro @hvn True.intro); refine WpM.regPE [] [(1, _), (2, _), (3, _), (4, _), (67, _)] (by (refine s_o [(2, _)] rfl rfl rfl z_su rfl q_move z_fp z_ss ?_; refine s_o [(4, _)] rfl rfl rfl z_su rfl q_fieldAddr z_fp z_ss ?_; refine s_o [(65, _)] rfl rfl rfl z_su rfl q_load z_fp z_ss ?_; refine s_o [(64, _), (66, _)] rfl rfl rfl z_su rfl q_full z_fp z_ss ?_; exact wpS_nil ⟨rfl, rfl⟩)) z_su ?_; clear z_ex)
      ((repeat refine WpM.seq ?_); refine WpM.condF (by (simp (maxSteps := 2000000) (disch := omega) [go_sem, -List.map_map, hvn])) ?_)
      refine WpM.skip ?_
      have hd : ∀ z, [V.d (D.bool z)].headD V.undef = V.d (D.bool z) := fun _ => rfl
      have q1 : (ms.map bl)[v]? = some (.d (.bool (ms.getD v false))) := by simp [bl, hms, hvl]
      have q2 : ((ms.set v false).map bl)[v]? = some (.d (.bool false)) := by simp [bl, hms, hvl]
      have q3 : ((ms.set v true).map bl)[v]? = some (.d (.bool true)) := by simp [bl, hms, hvl]
      have hg1 : ∀ ms' : List Bool, lget [(n0, some (Blk.box [.d (.int .i64 n), .d (cls cs)])), (nm, some (.row 1 (ms'.map bl)))] H nm = some (.row 1 (ms'.map bl)) := fun ms' => by (simp (maxSteps := 2000000) (disch := omega) [go_sem, -List.map_map, hnn0])
      ((repeat refine WpM.seq ?_); have z_ex := (And.intro @hrow (And.intro @hvl (And.intro @hvl1 (And.intro @q1 True.intro)))); refine WpM.regPE [] [(1, _), (2, _), (3, _), (4, _)] (by (refine s_o [(1, _)] rfl rfl rfl z_su rfl q_move z_fp z_ss ?_; refine s_o [(2, _)] rfl rfl rfl z_su rfl q_move z_fp z_ss ?_; refine s_o [(68, _), (69, _)] rfl rfl rfl z_su rfl q_full z_fp z_ss ?_; refine s_o [(70, _)] rfl rfl rfl z_su rfl q_store z_fp z_ss ?_; exact wpS_nil ⟨rfl, rfl⟩)) z_su ?_; clear z_ex)
      rw [hd, bl_set]
      ((repeat refine WpM.seq ?_); have z_ex := (And.intro @w3 (And.intro @cnf.eq_1 True.intro)); refine WpM.regPE [] [(1, _), (2, _), (3, _), (4, _), (14, _)] (by (refine s_o [(4, _)] rfl rfl rfl z_su rfl q_load z_fp z_ss ?_; refine s_o [(1, _)] rfl rfl rfl z_su rfl q_move z_fp z_ss ?_; refine s_o [(2, _)] rfl rfl rfl z_su rfl q_move z_fp z_ss ?_; refine s_o [(73, _)] rfl rfl rfl z_su rfl q_full z_fp z_ss ?_; refine s_o [(3, _)] rfl rfl rfl z_su rfl q_move z_fp z_ss ?_; refine s_at (callOf_eq rfl rfl rfl (mlk_tmp z_lk (mlk_tmp z_lk (mlk_tmp z_lk (mlk_tmp z_lk mlk_nil))))) ((c1 _ (hg1 _))) rfl rfl z_ip z_fp ?_; refine s_o [(76, _)] rfl rfl rfl z_su rfl q_move z_fp z_ss ?_; exact wpS_nil ⟨rfl, rfl⟩)) z_su ?_; clear z_ex)
      ((repeat refine WpM.seq ?_); have z_ex := (And.intro @hvl (And.intro @hvl1 (And.intro @q2 (And.intro @hnn0 True.intro)))); refine WpM.regPE [] [(1, _), (2, _), (3, _), (4, _), (14, _)] (by (refine s_o [(1, _)] rfl rfl rfl z_su rfl q_move z_fp z_ss ?_; refine s_o [(2, _)] rfl rfl rfl z_su rfl q_move z_fp z_ss ?_; refine s_o [(77, _), (78, _)] rfl rfl rfl z_su rfl q_full z_fp z_ss ?_; refine s_o [(79, _)] rfl rfl rfl z_su rfl q_store z_fp z_ss ?_; exact wpS_nil ⟨rfl, rfl⟩)) z_su ?_; clear z_ex)
      rw [hd, bl_set, List.set_set]
      ((repeat refine WpM.seq ?_); have z_ex := (And.intro @w1 (And.intro @w2 (And.intro @w3 (And.intro @cnf.eq_1 True.intro)))); refine WpM.regPE [] [(1, _), (2, _), (14, _)] (by (refine s_o [(14, _)] rfl rfl rfl z_su rfl q_move z_fp z_ss ?_; refine s_o [(4, _)] rfl rfl rfl z_su rfl q_load z_fp z_ss ?_; refine s_o [(1, _)] rfl rfl rfl z_su rfl q_move z_fp z_ss ?_; refine s_o [(2, _)] rfl rfl rfl z_su rfl q_move z_fp z_ss ?_; refine s_o [(83, _)] rfl rfl rfl z_su rfl q_full z_fp z_ss ?_; refine s_o [(3, _)] rfl rfl rfl z_su rfl q_move z_fp z_ss ?_; refine s_o [(14, _)] rfl rfl rfl z_su rfl q_move z_fp z_ss ?_; refine s_o [(85, _), (86, _)] rfl rfl rfl z_su rfl q_full z_fp z_ss ?_; refine s_at (callOf_eq rfl rfl rfl (mlk_tmp z_lk (mlk_tmp z_lk (mlk_tmp z_lk (mlk_tmp z_lk mlk_nil))))) ((c2 _ (hg1 _))) rfl rfl z_ip z_fp ?_; refine s_o [(80, _), (88, _)] rfl rfl rfl z_su rfl q_full z_fp z_ss ?_; refine s_o [(89, _)] rfl rfl rfl z_su rfl q_move z_fp z_ss ?_; exact wpS_nil ⟨rfl, rfl⟩)) z_su ?_; clear z_ex)
      ((repeat refine WpM.seq ?_); have z_ex := (And.intro @hvl (And.intro @hvl1 (And.intro @q3 (And.intro @hnn0 True.intro)))); refine WpM.regPE [] [(14, _)] (by (refine s_o [(1, _)] rfl rfl rfl z_su rfl q_move z_fp z_ss ?_; refine s_o [(2, _)] rfl rfl rfl z_su rfl q_move z_fp z_ss ?_; refine s_o [(90, _), (91, _)] rfl rfl rfl z_su rfl q_full z_fp z_ss ?_; refine s_o [(92, _)] rfl rfl rfl z_su rfl q_store z_fp z_ss ?_; exact wpS_nil ⟨rfl, rfl⟩)) z_su ?_; clear z_ex)
      rw [hd, bl_set, List.set_set, set_same_get (hz v (by omega)) hvl1]
      ((repeat refine WpM.seq ?_); have z_ex := True.intro; refine WpM.regPE [] [(8, _)] (by (refine s_o [(14, _)] rfl rfl rfl z_su rfl q_move z_fp z_ss ?_; refine s_o [(93, _)] rfl rfl rfl z_su rfl q_move z_fp z_ss ?_; exact wpS_nil ⟨rfl, rfl⟩)) z_su ?_; clear z_ex)
      refine WpM.ret ?_
      refine ⟨.inr rfl, Upd.done ⟨.d (.int .i64 (m1 + m2)), (by (simp (maxSteps := 2000000) (disch := omega) [go_sem, -List.map_map, resV, resVs, resV1])), rfl, fun m k hm hk => ?_⟩⟩
      by_cases e : m = nm
      · subst e
        rw [hrow] at hk
        injection hk with hk
        subst hk
        (simp (maxSteps := 2000000) (disch := omega) [go_sem, -List.map_map, hnn0])
      · (simp (maxSteps := 2000000) (disch := omega) [go_sem, -List.map_map, e, hk])
/-- Own row of a model for the recursion: made by Models. -/
theorem models38 (n : Nat) (cs : List (List Int)) (hn : n ≤ 4096) (hl : litsOk n cs) (hcl : cs.length ≤ 1048576) (hcs : ∀ c ∈ cs, c.length ≤ 1048576) (most : Int) (h1 : -9223372036854775808 ≤ most) (h2 : most ≤ 9223372036854775807) :
    PureC Try.prog 38 [.d (cnf n cs), .d (.int .i64 most)] (.d (.int .i64 (modelsF cs n (List.replicate (n + 1) false) 1 most))) := by
  refine PureC.of (n := 12) Try.func38 rfl rfl (by simp) (by simp only [argL, Nat.reduceAdd] <;> rfl) rfl ?_
  intro n0 H hH
  have c1 := fun S h => models63 n cs hn hl hcl hcs n 1 (List.replicate (n + 1) false) most (n0 + 6) S (by omega) (by omega) h1 h2 (by simp) (fun u _ => by simp [List.getElem?_replicate]; split <;> rfl) h
  have hrep : List.replicate (n + 1) (V.d (D.bool false)) = (List.replicate (n + 1) false).map bl := by rw [List.map_replicate]; rfl
  have hon : ∀ H', H' (n0 + 6) = some (Blk.row 1 (List.replicate (n + 1) (V.d (D.bool false)))) → PureOn Try.prog 63 [.d (cnf n cs), .ms (n0 + 6) 1 0 (n + 1), .d (.int .i64 1), .d (.int .i64 most)] (.d (.int .i64 (modelsF cs n (List.replicate (n + 1) false) 1 most))) [n0 + 6] H' := fun H' h S hS => c1 S (by rw [hS _ (by simp), h, hrep])
  ((repeat refine WpM.seq ?_); have z_ex := (And.intro @cnf.eq_1 True.intro); refine WpM.regPE [] [(1, _), (2, _)] (by (refine s_o [(0, _)] rfl rfl rfl z_su rfl q_box z_fp z_ss ?_; refine s_o [] rfl rfl rfl z_su rfl q_move z_fp z_ss ?_; exact wpS_nil ⟨rfl, rfl⟩)) z_su ?_; clear z_ex)
  ((repeat refine WpM.seq ?_); have z_ex := (And.intro @cnf.eq_1 (And.intro @wrap_id True.intro)); refine WpM.drwPE [] [(4, _)] mixed (by kernel_rfl) (by kernel_rfl) [(0, 4)] (by kernel_rfl) (by (refine d_o [(2, _)] rfl rfl rfl z_su rfl q_load z_fp z_ss rfl ?_; refine d_o [(2, _)] rfl rfl rfl z_su rfl q_fieldAddr z_fp z_ss rfl ?_; refine d_o [(6, _)] rfl rfl rfl z_su rfl q_load z_fp z_ss rfl ?_; refine d_o [(7, _)] rfl rfl rfl z_su rfl q_full z_fp z_ss rfl ?_; refine d_o [(8, _)] rfl rfl rfl z_su rfl q_full z_fp z_ss rfl ?_; refine d_o [(1, _)] rfl rfl rfl z_su rfl q_move z_fp z_ss rfl ?_; refine wpD_on [n0 + 6] rfl rfl (callOf_eq rfl rfl rfl (mlk_tmp z_lk (mlk_tmp z_lk (mlk_const rfl (mlk_tmp z_lk mlk_nil))))) z_ip rfl (hon _ (by simp [lget, lput, St.get])) z_fp ?_; refine d_o [(11, _)] rfl rfl rfl z_su rfl q_move z_fp z_ss rfl ?_; exact d_end z_mt z_sn)) z_su ?_; clear z_ex)
  (refine WpM.ret ?_; refine ⟨.inr rfl, Upd.done ?_⟩; (simp (maxSteps := 2000000) (disch := omega) [go_sem, -List.map_map, resV, resVs, resV1,]))
end Go.Proofs.Ytafeehlpmdligaa
