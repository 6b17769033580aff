/- assizeref16.plain. -/
import Derived.Test.YtafeehlpmdligaaOp
import Derived.Test.YtafeehlpmdligaaSpread
import Derived.Test.YtafeehlpmdligaaFirst
import Derived.Test.YtafeehlpmdligaaSoundR
namespace Go.Proofs.Ytafeehlpmdligaa
open Go.RowKit M
set_option linter.unusedSimpArgs false
set_option linter.unusedVariables false
set_option maxHeartbeats 8000000 in
theorem plain44 (n : Nat) (cs xs : List (List Int)) (c : List Int) (hn : n ≤ 4096) (ha : ∀ d ∈ cs ++ xs, d.length ≤ 1000000000 ∧ ∀ l ∈ d, l ≠ 0 ∧ -(n : Int) ≤ l ∧ l ≤ n) (hal : (cs ++ xs).length ≤ 1000000000) (hg : ∀ l ∈ c, l ≠ 0 ∧ -(n : Int) ≤ l ∧ l ≤ n) (hgl : c.length ≤ 1000000000) :
    PureC Try.prog 44 [.d (cnf n cs), .d (cls xs), .d (ints c)] (.d (.bool (followsB (cs ++ xs) c))) := by
  intro S
  refine CallM.pure' rfl (CallM.start (n := 37) Try.func44 rfl rfl (by simp) (by simp only [argL, Nat.reduceAdd] <;> rfl) ?_)
  intro hH
  obtain ⟨H, hHe⟩ : ∃ H, H = S.get := ⟨_, rfl⟩
  obtain ⟨n0, hne⟩ : ∃ n0, n0 = S.next := ⟨_, rfl⟩
  rw [← hHe, ← hne] at hH ⊢
  ((repeat refine WpM.seq ?_); have z_ex := (And.intro @cnf.eq_1 True.intro); refine WpM.regPE [] [(1, _), (2, _), (3, _)] (by (refine s_o [(0, _)] rfl rfl rfl z_su rfl q_box z_fp z_ss ?_; refine s_o [] rfl rfl rfl z_su rfl q_move z_fp z_ss ?_; exact wpS_nil ⟨rfl, rfl⟩)) z_su ?_; clear z_ex)
  ((repeat refine WpM.seq ?_); have z_ex := True.intro; refine WpM.regPE [] [(1, _), (2, _), (3, _), (7, _)] (by (refine s_o [] rfl rfl rfl z_su rfl q_move z_fp z_ss ?_; exact wpS_nil ⟨rfl, rfl⟩)) z_su ?_; clear z_ex)
  refine Upd.wp (Upd.ghost 7 1 (.inl (by (simp (maxSteps := 2000000) (disch := omega) [go_sem, -List.map_map]))) (Upd.done ?_))
  refine WpM.less (St.Le.refl _) (frLe_frOf (l := [(1, .d (cls xs)), (2, .d (ints c)), (3, .ptr n0 0), (7, .ms (n0 + 3) 1 0 0)]) (by (simp (maxSteps := 2000000) (disch := omega) [go_sem, -List.map_map, fset]))) ?_
  refine WpM.norm ?_
  intro nx0 G0 hnx0 hG0 hk0
  have q1 : G0 n0 = some (.box [.d (.int .i64 n), .d (cls cs)]) := by rw [hG0]; (simp (maxSteps := 2000000) (disch := omega) [go_sem, -List.map_map])
  have q2 : G0 (n0 + 3) = some (.row 1 []) := by rw [hG0]; (simp (maxSteps := 2000000) (disch := omega) [go_sem, -List.map_map])
  have kp0 : ∀ m k, H m = some k → G0 m = some k := by
    intro m k hm
    have := hH _ _ hm
    rw [hG0]
    (simp (maxSteps := 2000000) (disch := omega) [go_sem, -List.map_map, hm])
  clear hG0 hnx0 hk0
  ((repeat refine WpM.seq ?_); have z_ex := True.intro; refine WpM.regPE [] [(1, _), (2, _), (3, _), (7, _), (8, _)] (by (refine s_o [] rfl rfl rfl z_su rfl q_move z_fp z_ss ?_; exact wpS_nil ⟨rfl, rfl⟩)) z_su ?_; clear z_ex)
  ((repeat refine WpM.seq ?_); refine WpM.block ?_)
  refine WpM.loop (fun (j : Nat) fr S => j ≤ c.length ∧ ∃ nmo nx G, S = ⟨nx, [], G⟩ ∧ (∀ m k, H m = some k → G m = some k) ∧ G n0 = some (.box [.d (.int .i64 n), .d (cls cs)]) ∧ n0 < nmo ∧ G nmo = some (.row 1 (((c.take j).map (- ·)).map lit)) ∧
      fr = frOf [(1, .d (cls xs)), (2, .d (ints c)), (3, .ptr n0 0), (7, .ms nmo 1 0 j), (8, .d (.int .i64 j))]) (fun j => c.length - j) 0 (St.Le.refl _) (frLe_frOf (by (simp (maxSteps := 2000000) (disch := omega) [go_sem, -List.map_map]))) ⟨by omega, n0 + 3, _, _, rfl, kp0, q1, by omega, q2, rfl⟩ ?_
  clear q1 q2 kp0
  rintro j fr S' ⟨hj, nmo, nx, G, rfl, kp, kb, hno, nok, rfl⟩
  refine WpM.known fun hGk => ?_
  have hnmo := hGk _ _ nok
  simp only at hnmo
  have hll : (((c.take j).map (- ·)).map lit).length = j := by simp; omega
  have htk : (((c.take j).map (- ·)).map lit).take j = ((c.take j).map (- ·)).map lit := List.take_of_length_le (by omega)
  ((repeat refine WpM.seq ?_); have z_ex := (And.intro @ints.eq_1 True.intro); refine WpM.regPE [] [(1, _), (2, _), (3, _), (7, _), (8, _), (14, _)] (by (refine s_o [(8, _)] rfl rfl rfl z_su rfl q_move z_fp z_ss ?_; refine s_o [(2, _)] rfl rfl rfl z_su rfl q_move z_fp z_ss ?_; refine s_o [(12, _)] rfl rfl rfl z_su rfl q_full z_fp z_ss ?_; refine s_o [(11, _), (13, _)] rfl rfl rfl z_su rfl q_full z_fp z_ss ?_; exact wpS_nil ⟨rfl, rfl⟩)) z_su ?_; clear z_ex)
  by_cases hlt : j < c.length
  · ((repeat refine WpM.seq ?_); refine WpM.condT (by (simp (maxSteps := 2000000) (disch := omega) [go_sem, -List.map_map, hlt])) ?_)
    refine WpM.skip ?_
    ((repeat refine WpM.seq ?_); refine WpM.block ?_)
    have hlj := hg c[j] (List.getElem_mem _)
    have htc : c.take (j + 1) = c.take j ++ [c[j]] := List.take_succ_eq_append_getElem hlt
    obtain ⟨l, hle⟩ : ∃ l, l = c[j] := ⟨_, rfl⟩
    have hget : (c.map (D.int .i64))[j]? = some (.int .i64 l) := by simp [hlt, hle]
    rw [← hle] at hlj htc
    ((repeat refine WpM.seq ?_); have z_ex := (And.intro @ints.eq_1 (And.intro @hget (And.intro @nok (And.intro @hll (And.intro @htk (And.intro @wrap_0sub (And.intro @wrap_neg True.intro))))))); refine WpM.regPE [] [(1, _), (2, _), (3, _), (7, _), (8, _)] (by (refine s_o [(7, _)] rfl rfl rfl z_su rfl q_move z_fp z_ss ?_; refine s_o [(2, _)] rfl rfl rfl z_su rfl q_move z_fp z_ss ?_; refine s_o [(8, _)] rfl rfl rfl z_su rfl q_move z_fp z_ss ?_; refine s_o [(18, _), (19, _)] rfl rfl rfl z_su rfl q_full z_fp z_ss ?_; refine s_o [(20, _)] rfl rfl rfl z_su rfl q_load z_fp z_ss ?_; refine s_o [(21, _)] rfl rfl rfl z_su rfl q_unOp z_fp z_ss ?_; refine s_o [(22, _)] rfl rfl rfl z_su rfl q_full z_fp z_ss ?_; refine s_o [(17, _), (23, _)] rfl rfl rfl z_su rfl q_full z_fp z_ss ?_; refine s_o [(24, _)] rfl rfl rfl z_su rfl q_move z_fp z_ss ?_; exact wpS_nil ⟨rfl, rfl⟩)) z_su ?_; clear z_ex)
    refine WpM.norm ?_
    intro nx1 G1 hnx1 hG1 hk1
    have kb1 : G1 n0 = some (.box [.d (.int .i64 n), .d (cls cs)]) := by rw [hG1]; (simp (maxSteps := 2000000) (disch := omega) [go_sem, -List.map_map, kb])
    have no1 : G1 (nx + 11) = some (.row 1 (((c.take (j + 1)).map (- ·)).map lit)) := by rw [hG1, htc, List.map_append, List.map_append, ← htk]; (simp (maxSteps := 2000000) (disch := omega) [go_sem, -List.map_map, lit])
    have kp1 : ∀ m k, H m = some k → G1 m = some k := by
      intro m k hm
      have h8 := hH _ _ hm
      have h9 := kp _ _ hm
      rw [hG1]
      (simp (maxSteps := 2000000) (disch := omega) [go_sem, -List.map_map, h9])
    clear hG1 hnx1 hk1
    ((repeat refine WpM.seq ?_); have z_ex := (And.intro @wrap_id True.intro); refine WpM.regPE [] [(1, _), (2, _), (3, _), (7, _), (8, _)] (by (refine s_o [(8, _)] rfl rfl rfl z_su rfl q_move z_fp z_ss ?_; refine s_o [(15, _)] rfl rfl rfl z_su rfl q_full z_fp z_ss ?_; refine s_o [(16, _)] rfl rfl rfl z_su rfl q_move z_fp z_ss ?_; exact wpS_nil ⟨rfl, rfl⟩)) z_su ?_; clear z_ex)
    exact round_end (x' := j + 1) (St.Le.refl _) (frLe_frOf (by (simp (maxSteps := 2000000) (disch := omega) [go_sem, -List.map_map, wrap_id]))) ⟨by omega, nx + 11, _, _, rfl, kp1, kb1, by omega, no1, rfl⟩ (by omega)
  · ((repeat refine WpM.seq ?_); refine WpM.condF (by (simp (maxSteps := 2000000) (disch := omega) [go_sem, -List.map_map, hlt])) ?_)
    (refine WpM.exit ?_; (repeat (with_reducible (first | refine thenM_exit ?_ | refine blockM_eq ?_ | refine blockM_ne (by decide) ?_))))
    obtain rfl : j = c.length := by omega
    rw [List.take_length] at nok hll htk
    refine Upd.wp (Upd.freeze 7 (nm := nmo) (sz := 1) (o := 0) (m := c.length) (xs := (c.map (- ·)).map lit) ((c.map (- ·)).map (D.int .i64)) (by (simp (maxSteps := 2000000) (disch := omega) [go_sem, -List.map_map])) (by (simp (maxSteps := 2000000) (disch := omega) [go_sem, -List.map_map, nok])) (by rw [List.drop_zero, List.take_of_length_le (by simp), List.map_map, List.map_map, List.map_map]; rfl) (by simp) (Upd.done ?_))
    refine WpM.less (St.Le.refl _) (frLe_frOf (l := [(1, .d (cls xs)), (3, .ptr n0 0), (7, .d (ints (c.map (- ·))))]) (by (simp (maxSteps := 2000000) (disch := omega) [go_sem, -List.map_map, fset, ints]))) ?_
    refine WpM.norm ?_
    intro nx1 G1 hnx1 hG1 hk1
    have kb1 : G1 n0 = some (.box [.d (.int .i64 n), .d (cls cs)]) := by rw [hG1]; (simp (maxSteps := 2000000) (disch := omega) [go_sem, -List.map_map, kb])
    have kp1 : ∀ m k, H m = some k → G1 m = some k := by
      intro m k hm
      have h8 := hH _ _ hm
      have h9 := kp _ _ hm
      rw [hG1]
      (simp (maxSteps := 2000000) (disch := omega) [go_sem, -List.map_map, h9])
    clear hG1 hnx1 hk1
    have hC := fun nx => spread67 n cs xs (c.map (- ·)) ⟨nx, [], G1⟩ hn ha hal (fun l hl => by
      obtain ⟨y, hy, rfl⟩ := List.mem_map.1 hl
      have := hg y hy
      omega) (by simpa using hgl)
    rw [follows_closed]
    obtain ⟨b, hb⟩ : ∃ b, b = closedB (cs ++ xs) (c.map (- ·)) := ⟨_, rfl⟩
    rw [← hb] at hC ⊢
    ((repeat refine WpM.seq ?_); have z_ex := (And.intro @kb1 True.intro); refine WpM.regP [] ?_; intro K hK; refine s_o [(3, _)] rfl rfl rfl z_su rfl q_fieldAddr z_fp z_ss ?_; refine s_o [(26, _)] rfl rfl rfl z_su rfl q_load z_fp z_ss ?_; refine s_o [(3, _)] rfl rfl rfl z_su rfl q_fieldAddr z_fp z_ss ?_; refine s_o [(28, _)] rfl rfl rfl z_su rfl q_load z_fp z_ss ?_; refine s_o [(1, _)] rfl rfl rfl z_su rfl q_move z_fp z_ss ?_; refine s_o [(7, _)] rfl rfl rfl z_su rfl q_move z_fp z_ss ?_; refine s_call (callOf_eq rfl rfl rfl (mlk_tmp z_lk (mlk_tmp z_lk (mlk_tmp z_lk (mlk_tmp z_lk mlk_nil))))) (hC _) rfl rfl z_ip ?_; rintro _ _ ⟨⟨v, hv, rfl⟩, hk2⟩; refine s_put z_fp ?_; refine s_o [(32, _)] rfl rfl rfl z_su rfl q_move z_fp z_ss ?_; refine s_o [(25, _)] rfl rfl rfl z_su rfl q_extract z_fp z_ss ?_; refine s_o [(25, _)] rfl rfl rfl z_su rfl q_extract z_fp z_ss ?_; refine s_o [(33, _)] rfl rfl rfl z_su rfl q_move z_fp z_ss ?_; refine s_o [(34, _)] rfl rfl rfl z_su rfl q_move z_fp z_ss ?_; refine s_endE [(10, _)] hK z_su ?_; clear hK K; clear z_ex)
    ((repeat refine WpM.seq ?_); have z_ex := True.intro; refine WpM.regPE [] [(6, _)] (by (refine s_o [(10, _)] rfl rfl rfl z_su rfl q_move z_fp z_ss ?_; refine s_o [(35, _)] rfl rfl rfl z_su rfl q_unOp z_fp z_ss ?_; refine s_o [(36, _)] rfl rfl rfl z_su rfl q_move z_fp z_ss ?_; exact wpS_nil ⟨rfl, rfl⟩)) z_su ?_; clear z_ex)
    refine WpM.ret ?_
    exact ⟨.inr rfl, Upd.done ⟨.d (.bool (!b)), (by (simp (maxSteps := 2000000) (disch := omega) [go_sem, -List.map_map, resV, resVs, resV1])), rfl, fun m k hm hk => hk2 m k (kp1 m k hk)⟩⟩
set_option maxHeartbeats 8000000 in
theorem first21 (n : Int) (cs xs : List (List Int)) (hcl : cs.length ≤ 140737488351232) (hcs : ∀ c ∈ cs, c.length ≤ 140737488351232) (hxl : xs.length ≤ 140737488351232) (hxs : ∀ c ∈ xs, c.length ≤ 140737488351232) :
    PureC Try.prog 21 [.d (cnf n cs), .d (cls xs)] (.tup [.d (.int .i64 (firstN n cs xs)), .d (.int .i64 (soundP n cs xs))]) := by
  refine PureC.of (n := 31) Try.func21 rfl rfl (by simp) (by simp only [argL, Nat.reduceAdd] <;> rfl) rfl ?_
  intro n0 H hH
  have hs43 := sound43 n cs xs hcl hcs hxl hxs
  obtain ⟨e, he⟩ : ∃ e, e = soundP n cs xs := ⟨_, rfl⟩
  rw [← he] at hs43 ⊢
  ((repeat refine WpM.seq ?_); have z_ex := (And.intro @cnf.eq_1 True.intro); refine WpM.regPE [] [(1, _), (2, _)] (by (refine s_o [(0, _)] rfl rfl rfl z_su rfl q_box z_fp z_ss ?_; refine s_o [] rfl rfl rfl z_su rfl q_move z_fp z_ss ?_; refine s_o [] rfl rfl rfl z_su rfl q_move z_fp z_ss ?_; exact wpS_nil ⟨rfl, rfl⟩)) z_su ?_; clear z_ex)
  ((repeat refine WpM.seq ?_); have z_ex := (And.intro @cnf.eq_1 True.intro); refine WpM.regPE [] [(1, _), (2, _), (6, _)] (by (refine s_o [(2, _)] rfl rfl rfl z_su rfl q_load z_fp z_ss ?_; refine s_o [(1, _)] rfl rfl rfl z_su rfl q_move z_fp z_ss ?_; refine s_pure (callOf_eq rfl rfl rfl (mlk_tmp z_lk (mlk_tmp z_lk mlk_nil))) (hs43) rfl rfl z_ip z_fp ?_; refine s_o [(10, _)] rfl rfl rfl z_su rfl q_move z_fp z_ss ?_; exact wpS_nil ⟨rfl, rfl⟩)) z_su ?_; clear z_ex)
  by_cases h0 : e = 0
  · subst h0
    have hok := sound_ok he.symm
    have hf : firstN n cs xs = firstGo cs 0 xs := by simp [firstN, ← he]
    rw [hf]
    obtain ⟨N, rfl⟩ := Int.eq_ofNat_of_zero_le hok.n0
    have hN : N ≤ 4096 := by have := hok.n1; omega
    ((repeat refine WpM.seq ?_); have z_ex := True.intro; refine WpM.regPE [] [(1, _), (2, _), (6, _), (12, _)] (by (refine s_o [(6, _)] rfl rfl rfl z_su rfl q_move z_fp z_ss ?_; refine s_o [(11, _)] rfl rfl rfl z_su rfl q_full z_fp z_ss ?_; exact wpS_nil ⟨rfl, rfl⟩)) z_su ?_; clear z_ex)
    ((repeat refine WpM.seq ?_); refine WpM.condF (by (simp (maxSteps := 2000000) (disch := omega) [go_sem, -List.map_map])) ?_)
    refine WpM.skip ?_
    ((repeat refine WpM.seq ?_); have z_ex := True.intro; refine WpM.regPE [] [(1, _), (2, _), (7, _)] (by (refine s_o [] rfl rfl rfl z_su rfl q_move z_fp z_ss ?_; exact wpS_nil ⟨rfl, rfl⟩)) z_su ?_; clear z_ex)
    ((repeat refine WpM.seq ?_); refine WpM.block ?_)
    refine WpM.loop (fun (j : Nat) fr S => j ≤ xs.length ∧ firstGo (cs ++ xs.take j) j (xs.drop j) = firstGo cs 0 xs ∧ (∃ nx, S = ⟨nx, [(n0, some (.box [.d (.int .i64 N), .d (cls cs)]))], H⟩ ∧ n0 < nx) ∧ fr = frOf [(1, .d (cls xs)), (2, .ptr n0 0), (7, .d (.int .i64 j))]) (fun j => xs.length - j) 0 (St.Le.refl _) (frLe_frOf (by (simp (maxSteps := 2000000) (disch := omega) [go_sem, -List.map_map, cls]))) ⟨by omega, by simp, ⟨_, rfl, ?_⟩, rfl⟩ ?_
    · omega
    rintro j fr S' ⟨hj, hgo, ⟨nx, rfl, hnx⟩, rfl⟩
    ((repeat refine WpM.seq ?_); have z_ex := (And.intro @cls.eq_1 True.intro); refine WpM.regPE [] [(1, _), (2, _), (7, _), (17, _)] (by (refine s_o [(7, _)] rfl rfl rfl z_su rfl q_move z_fp z_ss ?_; refine s_o [(1, _)] rfl rfl rfl z_su rfl q_move z_fp z_ss ?_; refine s_o [(15, _)] rfl rfl rfl z_su rfl q_full z_fp z_ss ?_; refine s_o [(14, _), (16, _)] rfl rfl rfl z_su rfl q_full z_fp z_ss ?_; exact wpS_nil ⟨rfl, rfl⟩)) z_su ?_; clear z_ex)
    by_cases hlt : j < xs.length
    · ((repeat refine WpM.seq ?_); refine WpM.condT (by (simp (maxSteps := 2000000) (disch := omega) [go_sem, -List.map_map, hlt])) ?_)
      refine WpM.skip ?_
      ((repeat refine WpM.seq ?_); refine WpM.block ?_)
      have hxm : xs[j] ∈ xs := List.getElem_mem _
      rw [List.drop_eq_getElem_cons hlt] at hgo
      obtain ⟨x, hxe⟩ : ∃ x, x = xs[j] := ⟨_, rfl⟩
      have hget : (xs.map ints)[j]? = some (ints x) := by rw [lens xs j hlt, hxe]
      have htk : xs.take (j + 1) = xs.take j ++ [x] := by rw [List.take_succ_eq_append_getElem hlt, hxe]
      rw [← hxe] at hxm hgo
      have hlo : ∀ l, litOk N l = true → l ≠ 0 ∧ -(N : Int) ≤ l ∧ l ≤ N := fun l hl => by simpa [litOk] using hl
      have hall : ∀ d ∈ cs ++ xs.take j, d.length ≤ 1000000000 ∧ ∀ l ∈ d, l ≠ 0 ∧ -(N : Int) ≤ l ∧ l ≤ N := by
        intro d hd
        rcases List.mem_append.1 hd with hd | hd
        · have := hok.cs d hd
          exact ⟨by omega, fun l hl => hlo l (this.2 l hl)⟩
        · have := hok.xs d (List.mem_of_mem_take hd)
          exact ⟨by omega, fun l hl => hlo l (this.2 l hl)⟩
      have hx1 := hok.xs x hxm
      have hcc := hok.cl
      have hxx := hok.xl
      have hP := plain44 N cs (xs.take j) x hN hall (by rw [List.length_append, List.length_take]; omega) (fun l hl => hlo l (hx1.2 l hl)) (by omega)
      simp only [firstGo] at hgo
      obtain ⟨b, hb⟩ : ∃ b, b = followsB (cs ++ xs.take j) x := ⟨_, rfl⟩
      rw [← hb] at hP hgo
      clear hb
      have hP' : PureC Try.prog 44 [.d (cnf N cs), .d (.sl ((xs.map ints).take j)), .d (ints x)] (.d (.bool b)) := by rw [← List.map_take]; exact hP
      have hok1 : (xs.map ints).all (okEl 1) = true := by rw [List.all_map, List.all_eq_true]; intro y _; rfl
      have hjl : (j : Int) ≤ xs.length := by omega
      ((repeat refine WpM.seq ?_); have z_ex := (And.intro @cls.eq_1 (And.intro @cnf.eq_1 (And.intro @hget (And.intro @hok1 (And.intro @hjl (And.intro @ints.eq_1 True.intro)))))); refine WpM.drwPE [] [(1, _), (2, _), (7, _), (29, _)] mixed (by kernel_rfl) (by kernel_rfl) [] (by kernel_rfl) (by (refine d_o [(2, _)] rfl rfl rfl z_su rfl q_load z_fp z_ss rfl ?_; refine d_o [(1, _)] rfl rfl rfl z_su rfl q_move z_fp z_ss rfl ?_; refine d_o [(7, _)] rfl rfl rfl z_su rfl q_move z_fp z_ss rfl ?_; refine d_o [(21, _), (22, _)] rfl rfl rfl z_su rfl q_full z_fp z_ss rfl ?_; refine d_o [(1, _)] rfl rfl rfl z_su rfl q_move z_fp z_ss rfl ?_; refine d_o [(7, _)] rfl rfl rfl z_su rfl q_move z_fp z_ss rfl ?_; refine d_o [(24, _), (25, _)] rfl rfl rfl z_su rfl q_full z_fp z_ss rfl ?_; refine d_o [(26, _)] rfl rfl rfl z_su rfl q_load z_fp z_ss rfl ?_; refine d_pure (callOf_eq rfl rfl rfl (mlk_tmp z_lk (mlk_tmp z_lk (mlk_tmp z_lk mlk_nil)))) (hP') rfl rfl z_ip rfl z_fp ?_; refine d_o [(28, _)] rfl rfl rfl z_su rfl q_unOp z_fp z_ss rfl ?_; exact d_end z_mt z_sn)) z_su ?_; clear z_ex)
      cases b with
      | false =>
        ((repeat refine WpM.seq ?_); refine WpM.condT (by (simp (maxSteps := 2000000) (disch := omega) [go_sem, -List.map_map])) ?_)
        ((repeat refine WpM.seq ?_); have z_ex := True.intro; refine WpM.regPE [] [(4, _), (5, _)] (by (refine s_o [(7, _)] rfl rfl rfl z_su rfl q_move z_fp z_ss ?_; refine s_o [(30, _)] rfl rfl rfl z_su rfl q_move z_fp z_ss ?_; refine s_o [] rfl rfl rfl z_su rfl q_move z_fp z_ss ?_; exact wpS_nil ⟨rfl, rfl⟩)) z_su ?_; clear z_ex)
        (refine WpM.ret ?_; refine ⟨.inr rfl, Upd.done ?_⟩; (simp (maxSteps := 2000000) (disch := omega) [go_sem, -List.map_map, resV, resVs, resV1, ← hgo]))
      | true =>
        ((repeat refine WpM.seq ?_); refine WpM.condF (by (simp (maxSteps := 2000000) (disch := omega) [go_sem, -List.map_map])) ?_)
        refine WpM.skip ?_
        ((repeat refine WpM.seq ?_); have z_ex := (And.intro @wrap_id True.intro); refine WpM.regPE [] [(1, _), (2, _), (7, _)] (by (refine s_o [(7, _)] rfl rfl rfl z_su rfl q_move z_fp z_ss ?_; refine s_o [(18, _)] rfl rfl rfl z_su rfl q_full z_fp z_ss ?_; refine s_o [(19, _)] rfl rfl rfl z_su rfl q_move z_fp z_ss ?_; exact wpS_nil ⟨rfl, rfl⟩)) z_su ?_; clear z_ex)
        refine round_end (x' := j + 1) (St.Le.refl _) (frLe_frOf (by (simp (maxSteps := 2000000) (disch := omega) [go_sem, -List.map_map, wrap_id]))) ⟨by omega, ?_, ⟨_, rfl, ?_⟩, rfl⟩ (by omega)
        · rw [htk, ← List.append_assoc, ← hgo]
          rfl
        · omega
    · ((repeat refine WpM.seq ?_); refine WpM.condF (by (simp (maxSteps := 2000000) (disch := omega) [go_sem, -List.map_map, hlt])) ?_)
      (refine WpM.exit ?_; (repeat (with_reducible (first | refine thenM_exit ?_ | refine blockM_eq ?_ | refine blockM_ne (by decide) ?_))))
      obtain rfl : j = xs.length := by omega
      rw [List.drop_length] at hgo
      ((repeat refine WpM.seq ?_); have z_ex := True.intro; refine WpM.regPE [] [(4, _), (5, _)] (by (refine s_o [] rfl rfl rfl z_su rfl q_move z_fp z_ss ?_; refine s_o [] rfl rfl rfl z_su rfl q_move z_fp z_ss ?_; exact wpS_nil ⟨rfl, rfl⟩)) z_su ?_; clear z_ex)
      (refine WpM.ret ?_; refine ⟨.inr rfl, Upd.done ?_⟩; (simp (maxSteps := 2000000) (disch := omega) [go_sem, -List.map_map, resV, resVs, resV1, ← hgo, firstGo]))
  · have hf : firstN n cs xs = 0 := by simp [firstN, ← he, h0]
    ((repeat refine WpM.seq ?_); have z_ex := (And.intro @h0 True.intro); refine WpM.regPE [] [(1, _), (2, _), (6, _), (12, _)] (by (refine s_o [(6, _)] rfl rfl rfl z_su rfl q_move z_fp z_ss ?_; refine s_o [(11, _)] rfl rfl rfl z_su rfl q_full z_fp z_ss ?_; exact wpS_nil ⟨rfl, rfl⟩)) z_su ?_; clear z_ex)
    ((repeat refine WpM.seq ?_); refine WpM.condT (by (simp (maxSteps := 2000000) (disch := omega) [go_sem, -List.map_map, h0])) ?_)
    ((repeat refine WpM.seq ?_); have z_ex := True.intro; refine WpM.regPE [] [(4, _), (5, _)] (by (refine s_o [(6, _)] rfl rfl rfl z_su rfl q_move z_fp z_ss ?_; refine s_o [] rfl rfl rfl z_su rfl q_move z_fp z_ss ?_; refine s_o [(13, _)] rfl rfl rfl z_su rfl q_move z_fp z_ss ?_; exact wpS_nil ⟨rfl, rfl⟩)) z_su ?_; clear z_ex)
    (refine WpM.ret ?_; refine ⟨.inr rfl, Upd.done ?_⟩; (simp (maxSteps := 2000000) (disch := omega) [go_sem, -List.map_map, resV, resVs, resV1, hf]))
end Go.Proofs.Ytafeehlpmdligaa
