/- proof.Trim and assizeref16.Trim. -/
import Derived.Test.YtafeehlpmdligaaOp
import Derived.Test.YtafeehlpmdligaaClone
import Derived.Test.YtafeehlpmdligaaFirst
import Derived.Test.YtafeehlpmdligaaSoundR
namespace Go.Proofs.Ytafeehlpmdligaa
open Go.RowKit M
set_option linter.unusedSimpArgs false
set_option linter.unusedVariables false
/-- Up to the first empty clause. -/
def trimL : List (List Int) → List (List Int)
  | [] => []
  | c :: r => if c = [] then [c] else c :: trimL r
theorem trimL_hit : ∀ (xs : List (List Int)) (j : Nat) (h : j < xs.length), (∀ i (h : i < xs.length), i < j → xs[i] ≠ []) → xs[j] = [] → trimL xs = xs.take (j + 1)
  | c :: r, 0, h, _, he => by
    simp only [List.getElem_cons_zero] at he
    simp [trimL, he]
  | c :: r, j + 1, h, hn, he => by
    have h0 := hn 0 (by simp) (by omega)
    simp only [List.getElem_cons_zero] at h0
    simp only [List.getElem_cons_succ] at he
    have ih := trimL_hit r j (by simpa using h) (fun i hi hij => by have := hn (i + 1) (by simpa using hi) (by omega); simpa using this) he
    rw [trimL, if_neg h0, ih, List.take_succ_cons]
theorem trimL_no : ∀ (xs : List (List Int)), (∀ c ∈ xs, c ≠ []) → trimL xs = xs
  | [], _ => rfl
  | c :: r, h => by rw [trimL, if_neg (h c (by simp)), trimL_no r (fun c hc => h c (by simp [hc]))]
def trimF (n : Int) (cs xs : List (List Int)) : List (List Int) := if soundP n cs xs = 0 then trimL xs else []
set_option maxHeartbeats 8000000 in
theorem trim25 (n : Int) (cs xs : List (List Int)) (hcl : cs.length ≤ 140737488351232) (hcs : ∀ c ∈ cs, c.length ≤ 140737488351232) (hxl : xs.length ≤ 140737488351232) (hxs : ∀ c ∈ xs, c.length ≤ 140737488351232) :
    PureC Try.prog 25 [.d (cnf n cs), .d (cls xs)] (.tup [.d (cls (trimF n cs xs)), .d (.int .i64 (soundP n cs xs))]) := by
  intro S
  refine CallM.pure' (by rfl) (CallM.start (n := 32) Try.func25 rfl rfl (by simp) (by simp only [argL, Nat.reduceAdd] <;> rfl) ?_)
  intro hH
  obtain ⟨H, hHe⟩ : ∃ H, H = S.get := ⟨_, rfl⟩
  obtain ⟨n0, hne⟩ : ∃ n0, n0 = S.next := ⟨_, rfl⟩
  rw [← hHe, ← hne] at hH ⊢
  have hs := sound39 n cs xs hcl hcs hxl hxs
  unfold trimF
  obtain ⟨e, he⟩ : ∃ e, e = soundP n cs xs := ⟨_, rfl⟩
  rw [← he] at hs ⊢
  ((repeat refine WpM.seq ?_); have z_ex := (And.intro @cnf.eq_1 True.intro); refine WpM.regPE [] [(1, _), (2, _)] (by (refine s_o [(0, _)] rfl rfl rfl z_su rfl q_box z_fp z_ss ?_; refine s_o [] rfl rfl rfl z_su rfl q_move z_fp z_ss ?_; refine s_o [] rfl rfl rfl z_su rfl q_move z_fp z_ss ?_; exact wpS_nil ⟨rfl, rfl⟩)) z_su ?_; clear z_ex)
  ((repeat refine WpM.seq ?_); have z_ex := (And.intro @cnf.eq_1 True.intro); refine WpM.regPE [] [(1, _), (6, _)] (by (refine s_o [(2, _)] rfl rfl rfl z_su rfl q_load z_fp z_ss ?_; refine s_o [(1, _)] rfl rfl rfl z_su rfl q_move z_fp z_ss ?_; refine s_pure (callOf_eq rfl rfl rfl (mlk_tmp z_lk (mlk_tmp z_lk mlk_nil))) (hs) rfl rfl z_ip z_fp ?_; refine s_o [(12, _)] rfl rfl rfl z_su rfl q_move z_fp z_ss ?_; exact wpS_nil ⟨rfl, rfl⟩)) z_su ?_; clear z_ex)
  by_cases h0 : e = 0
  · subst h0
    have hok := sound_ok he.symm
    rw [if_pos rfl]
    ((repeat refine WpM.seq ?_); have z_ex := True.intro; refine WpM.regPE [] [(1, _), (6, _), (14, _)] (by (refine s_o [(6, _)] rfl rfl rfl z_su rfl q_move z_fp z_ss ?_; refine s_o [(13, _)] rfl rfl rfl z_su rfl q_full z_fp z_ss ?_; exact wpS_nil ⟨rfl, rfl⟩)) z_su ?_; clear z_ex)
    ((repeat refine WpM.seq ?_); refine WpM.condF (by (simp (maxSteps := 2000000) (disch := omega) [go_sem, -List.map_map])) ?_)
    refine WpM.skip ?_
    ((repeat refine WpM.seq ?_); have z_ex := True.intro; refine WpM.regPE [] [(1, _), (7, _)] (by (refine s_o [] rfl rfl rfl z_su rfl q_move z_fp z_ss ?_; exact wpS_nil ⟨rfl, rfl⟩)) z_su ?_; clear z_ex)
    refine Upd.wp (Upd.ghost 7 1 (.inl (by (simp (maxSteps := 2000000) (disch := omega) [go_sem, -List.map_map]))) (Upd.done ?_))
    refine WpM.less (St.Le.refl _) (frLe_frOf (l := [(1, .d (cls xs)), (7, .ms (n0 + 9) 1 0 0)]) (by (simp (maxSteps := 2000000) (disch := omega) [go_sem, -List.map_map, fset]))) ?_
    refine WpM.norm ?_
    intro nx0 G0 hnx0 hG0 hk0
    have q2 : G0 (n0 + 9) = some (.row 1 []) := by rw [hG0]; (simp (maxSteps := 2000000) (disch := omega) [go_sem, -List.map_map])
    have kp0 : ∀ m k, H m = some k → G0 m = some k := by
      intro m k hm
      have := hH _ _ hm
      rw [hG0]
      (simp (maxSteps := 2000000) (disch := omega) [go_sem, -List.map_map, hm])
    clear hG0 hnx0 hk0
    ((repeat refine WpM.seq ?_); have z_ex := (And.intro @cls.eq_1 True.intro); refine WpM.regPE [] [(7, _), (16, _), (17, _), (18, _)] (by (refine s_o [(1, _)] rfl rfl rfl z_su rfl q_move z_fp z_ss ?_; refine s_o [(16, _)] rfl rfl rfl z_su rfl q_full z_fp z_ss ?_; refine s_o [] rfl rfl rfl z_su rfl q_move z_fp z_ss ?_; exact wpS_nil ⟨rfl, rfl⟩)) z_su ?_; clear z_ex)
    ((repeat refine WpM.seq ?_); refine WpM.block ?_)
    have done : ∀ (ys : List (List Int)) (nmo nx : Nat) (G : Nat → Option Blk) (t : Nat), trimL xs = ys → n0 ≤ nmo → (∀ m k, H m = some k → G m = some k) → G nmo = some (.row 1 (ys.map fun c => .d (ints c))) →
        Upd 32 (frOf [(4, .ms nmo 1 0 ys.length), (5, .d (.int .i64 0))]) ⟨nx, [], G⟩ (fun fr S' => ∃ r, resV Try.prog fr S' Try.f25.results.toList = some r ∧ r = .tup [.d (cls (trimL xs)), .d (.int .i64 0)] ∧ ∀ m k, m < n0 → H m = some k → S'.get m = some k) := by
      intro ys nmo nx G t hy hno kp nok
      rw [hy]
      refine Upd.freeze 4 (nm := nmo) (sz := 1) (o := 0) (m := ys.length) (xs := ys.map fun c => .d (ints c)) (ys.map ints) (by (simp (maxSteps := 2000000) (disch := omega) [go_sem, -List.map_map])) (by (simp (maxSteps := 2000000) (disch := omega) [go_sem, -List.map_map, nok])) (by rw [List.drop_zero, List.take_of_length_le (by simp), List.map_map]; rfl) (by simp) (Upd.done ⟨_, (by (simp (maxSteps := 2000000) (disch := omega) [go_sem, -List.map_map, resV, resVs, resV1, fset]); rfl), rfl, fun m k hm hk => ?_⟩)
      have h9 := kp _ _ hk
      (simp (maxSteps := 2000000) (disch := omega) [go_sem, -List.map_map, h9])
    refine WpM.loop (fun (j : Nat) fr S => j ≤ xs.length ∧ (∀ i (h : i < xs.length), i < j → xs[i] ≠ []) ∧ ∃ nmo nx G, S = ⟨nx, [], G⟩ ∧ (∀ m k, H m = some k → G m = some k) ∧ n0 ≤ nmo ∧ G nmo = some (.row 1 ((xs.take j).map fun c => .d (ints c))) ∧
        fr = frOf [(7, .ms nmo 1 0 j), (16, .d (cls xs)), (17, .d (.int .i64 xs.length)), (18, .d (.int .i64 j))]) (fun j => xs.length - j) 0 (St.Le.refl _) (frLe_frOf (by (simp (maxSteps := 2000000) (disch := omega) [go_sem, -List.map_map, cls]))) ⟨by omega, by simp, n0 + 9, _, _, rfl, kp0, by omega, q2, rfl⟩ ?_
    clear q2 kp0
    rintro j fr S' ⟨hj, hne, nmo, nx, G, rfl, kp, hno, nok, rfl⟩
    refine WpM.known fun hGk => ?_
    have hnmo := hGk _ _ nok
    simp only at hnmo
    ((repeat refine WpM.seq ?_); have z_ex := True.intro; refine WpM.regPE [] [(7, _), (16, _), (17, _), (18, _), (19, _)] (by (refine s_o [(17, _), (18, _)] rfl rfl rfl z_su rfl q_full z_fp z_ss ?_; exact wpS_nil ⟨rfl, rfl⟩)) z_su ?_; clear z_ex)
    by_cases hlt : j < xs.length
    · ((repeat refine WpM.seq ?_); refine WpM.condT (by (simp (maxSteps := 2000000) (disch := omega) [go_sem, -List.map_map, hlt])) ?_)
      refine WpM.skip ?_
      ((repeat refine WpM.seq ?_); refine WpM.block ?_)
      have hxm := hok.xs xs[j] (List.getElem_mem _)
      have htk : xs.take (j + 1) = xs.take j ++ [xs[j]] := List.take_succ_eq_append_getElem hlt
      have hit := trimL_hit xs j hlt hne
      have hne2 : xs[j] ≠ [] → ∀ i (h : i < xs.length), i < j + 1 → xs[i] ≠ [] := fun hx i hi hij => by
        rcases Nat.lt_or_ge i j with h | h
        · exact hne i hi h
        · obtain rfl : i = j := by omega
          exact hx
      obtain ⟨c, hce⟩ : ∃ c, c = xs[j] := ⟨_, rfl⟩
      have hget : (xs.map ints)[j]? = some (ints c) := by rw [lens xs j hlt, hce]
      rw [← hce] at hxm htk hit hne2
      clear hce
      have hcl := clone50 c (by omega)
      have hjl : ((xs.take j).map fun c => V.d (ints c)).length = j := by simp; omega
      have hxl := hok.xl
      have htk3 : ((xs.take j).map fun c => V.d (ints c)).take j = (xs.take j).map fun c => V.d (ints c) := List.take_of_length_le (by omega)
      ((repeat refine WpM.seq ?_); have z_ex := (And.intro @cls.eq_1 (And.intro @hget (And.intro @ints.eq_1 True.intro))); refine WpM.regPE [] [(7, _), (9, _), (16, _), (17, _), (18, _)] (by (refine s_o [(16, _), (18, _)] rfl rfl rfl z_su rfl q_full z_fp z_ss ?_; refine s_o [(20, _)] rfl rfl rfl z_su rfl q_load z_fp z_ss ?_; refine s_o [(21, _)] rfl rfl rfl z_su rfl q_move z_fp z_ss ?_; exact wpS_nil ⟨rfl, rfl⟩)) z_su ?_; clear z_ex)
      ((repeat refine WpM.seq ?_); have z_ex := (And.intro @nok (And.intro @hjl (And.intro @htk3 (And.intro @ints.eq_1 True.intro)))); refine WpM.regPE [] [(7, _), (9, _), (16, _), (17, _), (18, _)] (by (refine s_o [(7, _)] rfl rfl rfl z_su rfl q_move z_fp z_ss ?_; refine s_o [(9, _)] rfl rfl rfl z_su rfl q_move z_fp z_ss ?_; refine s_pure (callOf_eq rfl rfl rfl (mlk_tmp z_lk mlk_nil)) (hcl) rfl rfl z_ip z_fp ?_; refine s_o [(24, _)] rfl rfl rfl z_su rfl q_full z_fp z_ss ?_; refine s_o [(22, _), (25, _)] rfl rfl rfl z_su rfl q_full z_fp z_ss ?_; refine s_o [(26, _)] rfl rfl rfl z_su rfl q_move z_fp z_ss ?_; exact wpS_nil ⟨rfl, rfl⟩)) z_su ?_; clear z_ex)
      refine WpM.norm ?_
      intro nx1 G1 hnx1 hG1 hk1
      have p3 : G1 (nx + 7) = some (.row 1 ((xs.take (j + 1)).map fun c => .d (ints c))) := by rw [hG1, htk, List.map_append, ← htk3]; (simp (maxSteps := 2000000) (disch := omega) [go_sem, -List.map_map, ints])
      have kp1 : ∀ m k, H m = some k → G1 m = some k := by
        intro m k hm
        have h8 := hH _ _ hm
        have h9 := kp _ _ hm
        rw [hG1]
        (simp (maxSteps := 2000000) (disch := omega) [go_sem, -List.map_map, h9])
      clear hG1 hnx1 hk1
      have hlj : (xs.take (j + 1)).length = j + 1 := by simp; omega
      by_cases hce : c = []
      · subst hce
        ((repeat refine WpM.seq ?_); have z_ex := (And.intro @ints.eq_1 True.intro); refine WpM.regPE [] [(7, _), (16, _), (17, _), (18, _), (29, _)] (by (refine s_o [(9, _)] rfl rfl rfl z_su rfl q_move z_fp z_ss ?_; refine s_o [(27, _)] rfl rfl rfl z_su rfl q_full z_fp z_ss ?_; refine s_o [(28, _)] rfl rfl rfl z_su rfl q_full z_fp z_ss ?_; exact wpS_nil ⟨rfl, rfl⟩)) z_su ?_; clear z_ex)
        ((repeat refine WpM.seq ?_); refine WpM.condT (by (simp (maxSteps := 2000000) (disch := omega) [go_sem, -List.map_map])) ?_)
        (refine WpM.exit ?_; (repeat (with_reducible (first | refine thenM_exit ?_ | refine blockM_eq ?_ | refine blockM_ne (by decide) ?_))))
        ((repeat refine WpM.seq ?_); have z_ex := True.intro; refine WpM.regPE [] [(4, _), (5, _)] (by (refine s_o [(7, _)] rfl rfl rfl z_su rfl q_move z_fp z_ss ?_; refine s_o [(31, _)] rfl rfl rfl z_su rfl q_move z_fp z_ss ?_; refine s_o [] rfl rfl rfl z_su rfl q_move z_fp z_ss ?_; exact wpS_nil ⟨rfl, rfl⟩)) z_su ?_; clear z_ex)
        refine WpM.ret ?_
        have := fun nz => done (xs.take (j + 1)) (nx + 7) nz G1 0 (hit rfl) (by omega) kp1 p3
        simp only [hlj] at this
        exact ⟨.inr rfl, this _⟩
      · have hcl0 : ¬ ((c.length : Int) = 0) := by cases c with | nil => exact absurd rfl hce | cons a r => simp only [List.length_cons]; omega
        ((repeat refine WpM.seq ?_); have z_ex := (And.intro @ints.eq_1 (And.intro @hce True.intro)); refine WpM.regPE [] [(7, _), (16, _), (17, _), (18, _), (29, _)] (by (refine s_o [(9, _)] rfl rfl rfl z_su rfl q_move z_fp z_ss ?_; refine s_o [(27, _)] rfl rfl rfl z_su rfl q_full z_fp z_ss ?_; refine s_o [(28, _)] rfl rfl rfl z_su rfl q_full z_fp z_ss ?_; exact wpS_nil ⟨rfl, rfl⟩)) z_su ?_; clear z_ex)
        ((repeat refine WpM.seq ?_); refine WpM.condF (by (simp (maxSteps := 2000000) (disch := omega) [go_sem, -List.map_map, hce])) ?_)
        refine WpM.skip ?_
        ((repeat refine WpM.seq ?_); have z_ex := (And.intro @wrap_id True.intro); refine WpM.regPE [] [(7, _), (16, _), (17, _), (18, _)] (by (refine s_o [(18, _)] rfl rfl rfl z_su rfl q_full z_fp z_ss ?_; refine s_o [(30, _)] rfl rfl rfl z_su rfl q_move z_fp z_ss ?_; exact wpS_nil ⟨rfl, rfl⟩)) z_su ?_; clear z_ex)
        exact round_end (x' := j + 1) (St.Le.refl _) (frLe_frOf (by (simp (maxSteps := 2000000) (disch := omega) [go_sem, -List.map_map, wrap_id]))) ⟨by omega, hne2 hce, nx + 7, _, _, rfl, kp1, by omega, p3, rfl⟩ (by omega)
    · ((repeat refine WpM.seq ?_); refine WpM.condF (by (simp (maxSteps := 2000000) (disch := omega) [go_sem, -List.map_map, hlt])) ?_)
      (refine WpM.exit ?_; (repeat (with_reducible (first | refine thenM_exit ?_ | refine blockM_eq ?_ | refine blockM_ne (by decide) ?_))))
      obtain rfl : j = xs.length := by omega
      rw [List.take_length] at nok
      ((repeat refine WpM.seq ?_); have z_ex := True.intro; refine WpM.regPE [] [(4, _), (5, _)] (by (refine s_o [(7, _)] rfl rfl rfl z_su rfl q_move z_fp z_ss ?_; refine s_o [(31, _)] rfl rfl rfl z_su rfl q_move z_fp z_ss ?_; refine s_o [] rfl rfl rfl z_su rfl q_move z_fp z_ss ?_; exact wpS_nil ⟨rfl, rfl⟩)) z_su ?_; clear z_ex)
      refine WpM.ret ?_
      exact ⟨.inr rfl, done xs nmo _ G 0 (trimL_no xs fun c hc => by obtain ⟨i, hi, rfl⟩ := List.getElem_of_mem hc; exact hne i hi hi) hno kp nok⟩
  · rw [if_neg h0]
    ((repeat refine WpM.seq ?_); have z_ex := (And.intro @h0 True.intro); refine WpM.regPE [] [(1, _), (6, _), (14, _)] (by (refine s_o [(6, _)] rfl rfl rfl z_su rfl q_move z_fp z_ss ?_; refine s_o [(13, _)] rfl rfl rfl z_su rfl q_full z_fp z_ss ?_; exact wpS_nil ⟨rfl, rfl⟩)) z_su ?_; clear z_ex)
    ((repeat refine WpM.seq ?_); refine WpM.condT (by (simp (maxSteps := 2000000) (disch := omega) [go_sem, -List.map_map, h0])) ?_)
    ((repeat refine WpM.seq ?_); have z_ex := True.intro; refine WpM.regPE [] [(4, _), (5, _)] (by (refine s_o [(6, _)] rfl rfl rfl z_su rfl q_move z_fp z_ss ?_; refine s_o [] rfl rfl rfl z_su rfl q_move z_fp z_ss ?_; refine s_o [(15, _)] rfl rfl rfl z_su rfl q_move z_fp z_ss ?_; exact wpS_nil ⟨rfl, rfl⟩)) z_su ?_; clear z_ex)
    refine WpM.ret ?_
    refine ⟨.inr rfl, Upd.pureNil 4 (.inl (by (simp (maxSteps := 2000000) (disch := omega) [go_sem, -List.map_map]))) (Upd.done ⟨.tup [.d (cls []), .d (.int .i64 e)], (by (simp (maxSteps := 2000000) (disch := omega) [go_sem, -List.map_map, resV, resVs, resV1, fset, cls])), rfl, fun m k _ hk => ?_⟩)⟩
    have := hH _ _ hk
    (simp (maxSteps := 2000000) (disch := omega) [go_sem, -List.map_map, hk])
end Go.Proofs.Ytafeehlpmdligaa
