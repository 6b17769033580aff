/- assizelaw16.ProofTurned, walked. -/
import Derived.Test.YtafeehlpmdligaaOp
import Derived.Test.YtafeehlpmdligaaLaw3
import Derived.Test.YtafeehlpmdligaaTurn
namespace Go.Proofs.Ytafeehlpmdligaa
open Go.RowKit M
set_option linter.unusedSimpArgs false
set_option linter.unusedVariables false
set_option maxHeartbeats 8000000 in
theorem law4 (n : Int) (cs xs : List (List Int)) (hcl : cs.length ≤ 1048576) (hcs : ∀ c ∈ cs, c.length ≤ 1048576) (hxl : xs.length ≤ 1048576) (hxs : ∀ c ∈ xs, c.length ≤ 1048576) :
    PureC Try.prog 4 [.d (cnf n cs), .d (cls xs)] (.d (.bool true)) := by
  intro S
  refine CallM.pure' rfl (CallM.start (n := 78) Try.func4 rfl rfl (by simp) (by simp only [argL, Nat.reduceAdd] <;> rfl) ?_)
  intro hH
  obtain ⟨H, hHe⟩ : ∃ H, H = S.get := ⟨_, rfl⟩
  obtain ⟨n0, hne⟩ : ∃ n0, n0 = S.next := ⟨_, rfl⟩
  rw [← hHe, ← hne] at hH ⊢
  have hcl' : cs.length ≤ 140737488351232 := by omega
  have hcs' : ∀ c ∈ cs, c.length ≤ 140737488351232 := fun c hc => by have := hcs c hc; omega
  have hxl' : xs.length ≤ 140737488351232 := by omega
  have hxs' : ∀ c ∈ xs, c.length ≤ 140737488351232 := fun c hc => by have := hxs c hc; omega
  have keep0 : ∀ nx, ∀ m k, H m = some k → St.get ⟨nx, [(n0, some (.box [.d (.int .i64 n), .d (cls cs)]))], H⟩ m = some k := by
    intro nx m k hm
    have := hH _ _ hm
    (simp (maxSteps := 2000000) (disch := omega) [go_sem, -List.map_map, hm])
  ((repeat refine WpM.seq ?_); have z_ex := (And.intro @cnf.eq_1 True.intro); refine WpM.regPE [] [(1, _), (2, _)] (by (refine s_o [(0, _)] rfl rfl rfl z_su rfl q_box z_fp z_ss ?_; refine s_o [] rfl rfl rfl z_su rfl q_move z_fp z_ss ?_; exact wpS_nil ⟨rfl, rfl⟩)) z_su ?_; clear z_ex)
  ((repeat refine WpM.seq ?_); have z_ex := True.intro; refine WpM.regPE [] [(1, _), (2, _), (14, _)] (by (refine s_pure (callOf_eq rfl rfl rfl mlk_nil) (alive14) rfl rfl z_ip z_fp ?_; refine s_o [(13, _)] rfl rfl rfl z_su rfl q_unOp z_fp z_ss ?_; exact wpS_nil ⟨rfl, rfl⟩)) z_su ?_; clear z_ex)
  ((repeat refine WpM.seq ?_); refine WpM.condF (by (simp (maxSteps := 2000000) (disch := omega) [go_sem, -List.map_map])) ?_)
  refine WpM.skip ?_
  have hL := light15 n cs xs hcl hcs hxl hxs
  cases hl : lightP n cs xs with
  | false =>
    rw [hl] at hL
    ((repeat refine WpM.seq ?_); have z_ex := (And.intro @cnf.eq_1 True.intro); refine WpM.regPE [] [(1, _), (2, _), (18, _)] (by (refine s_o [(2, _)] rfl rfl rfl z_su rfl q_load z_fp z_ss ?_; refine s_o [(1, _)] rfl rfl rfl z_su rfl q_move z_fp z_ss ?_; refine s_pure (callOf_eq rfl rfl rfl (mlk_tmp z_lk (mlk_tmp z_lk mlk_nil))) (hL) rfl rfl z_ip z_fp ?_; refine s_o [(17, _)] rfl rfl rfl z_su rfl q_unOp z_fp z_ss ?_; exact wpS_nil ⟨rfl, rfl⟩)) z_su ?_; clear z_ex)
    ((repeat refine WpM.seq ?_); refine WpM.condT (by (simp (maxSteps := 2000000) (disch := omega) [go_sem, -List.map_map])) ?_)
    ((repeat refine WpM.seq ?_); have z_ex := True.intro; refine WpM.regPE [] [(4, _)] (by (refine s_o [] rfl rfl rfl z_su rfl q_move z_fp z_ss ?_; exact wpS_nil ⟨rfl, rfl⟩)) z_su ?_; clear z_ex)
    refine WpM.ret ?_
    exact ⟨.inr rfl, Upd.done ⟨.d (.bool true), (by (simp (maxSteps := 2000000) (disch := omega) [go_sem, -List.map_map, resV, resVs, resV1])), rfl, fun m k hm hk => keep0 _ m k hk⟩⟩
  | true =>
    rw [hl] at hL
    have hm := light_ok hl
    have hmt := mass_turned cs
    have hml := len_mass cs
    ((repeat refine WpM.seq ?_); have z_ex := (And.intro @cnf.eq_1 True.intro); refine WpM.regPE [] [(1, _), (2, _), (18, _)] (by (refine s_o [(2, _)] rfl rfl rfl z_su rfl q_load z_fp z_ss ?_; refine s_o [(1, _)] rfl rfl rfl z_su rfl q_move z_fp z_ss ?_; refine s_pure (callOf_eq rfl rfl rfl (mlk_tmp z_lk (mlk_tmp z_lk mlk_nil))) (hL) rfl rfl z_ip z_fp ?_; refine s_o [(17, _)] rfl rfl rfl z_su rfl q_unOp z_fp z_ss ?_; exact wpS_nil ⟨rfl, rfl⟩)) z_su ?_; clear z_ex)
    ((repeat refine WpM.seq ?_); refine WpM.condF (by (simp (maxSteps := 2000000) (disch := omega) [go_sem, -List.map_map])) ?_)
    refine WpM.skip ?_
    ((repeat refine WpM.seq ?_); have z_ex := True.intro; refine WpM.regPE [] [(1, _), (2, _), (5, _)] (by (refine s_o [(2, _)] rfl rfl rfl z_su rfl q_fieldAddr z_fp z_ss ?_; refine s_o [(19, _)] rfl rfl rfl z_su rfl q_load z_fp z_ss ?_; refine s_o [(20, _)] rfl rfl rfl z_su rfl q_build z_fp z_ss ?_; refine s_o [] rfl rfl rfl z_su rfl q_alloc z_fp z_ss ?_; refine s_o [(5, _), (21, _)] rfl rfl rfl z_su rfl q_store z_fp z_ss ?_; exact wpS_nil ⟨rfl, rfl⟩)) z_su ?_; clear z_ex)
    refine Upd.wp (Upd.ghostIn (cs := [.d (.int .i64 n), .nil]) (n0 + 9) 1 1 (by (simp (maxSteps := 2000000) (disch := omega) [go_sem, -List.map_map])) (.inl rfl) (Upd.done ?_))
    refine WpM.norm ?_
    intro nx0 G0 hnx0 hG0 hk0
    have q1 : G0 n0 = some (.box [.d (.int .i64 n), .d (cls cs)]) := by rw [hG0]; (simp (maxSteps := 2000000) (disch := omega) [go_sem, -List.map_map])
    have q2 : G0 (n0 + 9) = some (.box [.d (.int .i64 n), .ms (n0 + 11) 1 0 0]) := by rw [hG0]; (simp (maxSteps := 2000000) (disch := omega) [go_sem, -List.map_map, List.set])
    have q3 : G0 (n0 + 11) = some (.row 1 []) := by rw [hG0]; (simp (maxSteps := 2000000) (disch := omega) [go_sem, -List.map_map])
    have kp0 : ∀ m k, H m = some k → G0 m = some k := by
      intro m k hm
      have := hH _ _ hm
      rw [hG0]
      (simp (maxSteps := 2000000) (disch := omega) [go_sem, -List.map_map, hm])
    clear hG0 hnx0 hk0
    ((repeat refine WpM.seq ?_); have z_ex := (And.intro @q1 (And.intro @cls.eq_1 (And.intro @wrap_id True.intro))); refine WpM.regPE [] [(1, _), (2, _), (5, _), (6, _)] (by (refine s_o [(2, _)] rfl rfl rfl z_su rfl q_fieldAddr z_fp z_ss ?_; refine s_o [(22, _)] rfl rfl rfl z_su rfl q_load z_fp z_ss ?_; refine s_o [(23, _)] rfl rfl rfl z_su rfl q_full z_fp z_ss ?_; refine s_o [(24, _)] rfl rfl rfl z_su rfl q_full z_fp z_ss ?_; refine s_o [(25, _)] rfl rfl rfl z_su rfl q_move z_fp z_ss ?_; exact wpS_nil ⟨rfl, rfl⟩)) z_su ?_; clear z_ex)
    ((repeat refine WpM.seq ?_); refine WpM.block ?_)
    have htl : (turned cs).length = cs.length := by simp [turned]
    have hti : ∀ j (h : j < cs.length), (turned cs)[j]? = some (cs[cs.length - 1 - j]'(by omega)).reverse := fun j h => by
      unfold turned
      rw [List.getElem?_map, List.getElem?_reverse h, List.getElem?_eq_getElem (by omega)]
      rfl
    refine WpM.loop (fun (j : Nat) fr S => j ≤ cs.length ∧ ∃ nmo nx G, S = ⟨nx, [], G⟩ ∧ (∀ m k, H m = some k → G m = some k) ∧ G n0 = some (.box [.d (.int .i64 n), .d (cls cs)]) ∧ G (n0 + 9) = some (.box [.d (.int .i64 n), .ms nmo 1 0 j]) ∧ n0 + 9 < nmo ∧ G nmo = some (.row 1 (((turned cs).take j).map fun c => .d (ints c))) ∧
        fr = frOf [(1, .d (cls xs)), (2, .ptr n0 0), (5, .ptr (n0 + 9) 0), (6, .d (.int .i64 ((cs.length : Int) - 1 - j)))]) (fun j => cs.length - j) 0 (St.Le.refl _) (frLe_frOf (by (simp (maxSteps := 2000000) (disch := omega) [go_sem, -List.map_map]))) ⟨by omega, n0 + 11, _, _, rfl, kp0, q1, q2, by omega, q3, rfl⟩ ?_
    clear q1 q2 q3 kp0
    rintro j fr S' ⟨hj, nmo, nx, G, rfl, kp, kb, kg, hno, nok, rfl⟩
    by_cases hlt : j < cs.length
    · have hge : (j : Int) ≤ (cs.length : Int) - 1 := by omega
      have hti' := hti j hlt
      have hcm := hcs cs[cs.length - 1 - j] (List.getElem_mem _)
      have hgi : (cs.map ints)[cs.length - 1 - j]? = some (ints (cs[cs.length - 1 - j]'(by omega))) := by rw [List.getElem?_map, List.getElem?_eq_getElem (by omega)]; rfl
      obtain ⟨c, hce⟩ : ∃ c, c = cs[cs.length - 1 - j] := ⟨_, rfl⟩
      rw [← hce] at hti' hcm hgi
      clear hce
      obtain ⟨i, hi⟩ : ∃ i, i = cs.length - 1 - j := ⟨_, rfl⟩
      rw [← hi] at hgi
      have hcast : (cs.length : Int) - 1 - j = (i : Int) := by omega
      have htk : (turned cs).take (j + 1) = (turned cs).take j ++ [c.reverse] := by rw [List.take_add_one, hti']; rfl
      ((repeat refine WpM.seq ?_); have z_ex := True.intro; refine WpM.regPE [] [(1, _), (2, _), (5, _), (6, _), (27, _)] (by (refine s_o [(6, _)] rfl rfl rfl z_su rfl q_move z_fp z_ss ?_; refine s_o [(26, _)] rfl rfl rfl z_su rfl q_full z_fp z_ss ?_; exact wpS_nil ⟨rfl, rfl⟩)) z_su ?_; clear z_ex)
      ((repeat refine WpM.seq ?_); refine WpM.condT (by (simp (maxSteps := 2000000) (disch := omega) [go_sem, -List.map_map, hge])) ?_)
      refine WpM.skip ?_
      rw [hcast]
      ((repeat refine WpM.seq ?_); refine WpM.block ?_)
      ((repeat refine WpM.seq ?_); have z_ex := True.intro; refine WpM.regPE [] [(1, _), (2, _), (5, _), (6, _), (7, _)] (by (refine s_o [] rfl rfl rfl z_su rfl q_move z_fp z_ss ?_; exact wpS_nil ⟨rfl, rfl⟩)) z_su ?_; clear z_ex)
      ((repeat refine WpM.seq ?_); have z_ex := (And.intro @kb (And.intro @cls.eq_1 (And.intro @hgi (And.intro @ints.eq_1 (And.intro @wrap_id True.intro))))); refine WpM.regPE [] [(1, _), (2, _), (5, _), (6, _), (7, _), (8, _)] (by (refine s_o [(2, _)] rfl rfl rfl z_su rfl q_fieldAddr z_fp z_ss ?_; refine s_o [(30, _)] rfl rfl rfl z_su rfl q_load z_fp z_ss ?_; refine s_o [(6, _)] rfl rfl rfl z_su rfl q_move z_fp z_ss ?_; refine s_o [(31, _), (32, _)] rfl rfl rfl z_su rfl q_full z_fp z_ss ?_; refine s_o [(33, _)] rfl rfl rfl z_su rfl q_load z_fp z_ss ?_; refine s_o [(34, _)] rfl rfl rfl z_su rfl q_full z_fp z_ss ?_; refine s_o [(35, _)] rfl rfl rfl z_su rfl q_full z_fp z_ss ?_; refine s_o [(36, _)] rfl rfl rfl z_su rfl q_move z_fp z_ss ?_; exact wpS_nil ⟨rfl, rfl⟩)) z_su ?_; clear z_ex)
      refine WpM.known fun hGk => ?_
      have hnmo := hGk _ _ nok
      simp only at hnmo
      refine Upd.wp (Upd.ghost 7 1 (.inl (by (simp (maxSteps := 2000000) (disch := omega) [go_sem, -List.map_map]))) (Upd.done ?_))
      refine WpM.less (St.Le.refl _) (frLe_frOf (l := [(1, .d (cls xs)), (2, .ptr n0 0), (5, .ptr (n0 + 9) 0), (6, .d (.int .i64 i)), (7, .ms (nx + 11) 1 0 0), (8, .d (.int .i64 ((c.length : Int) - 1)))]) (by (simp (maxSteps := 2000000) (disch := omega) [go_sem, -List.map_map, fset]))) ?_
      refine WpM.norm ?_
      intro nx1 G1 hnx1 hG1 hk1
      have q1 : G1 n0 = some (.box [.d (.int .i64 n), .d (cls cs)]) := by rw [hG1]; (simp (maxSteps := 2000000) (disch := omega) [go_sem, -List.map_map, kb])
      have q2 : G1 (n0 + 9) = some (.box [.d (.int .i64 n), .ms nmo 1 0 j]) := by rw [hG1]; (simp (maxSteps := 2000000) (disch := omega) [go_sem, -List.map_map, kg])
      have q4 : G1 nmo = some (.row 1 (((turned cs).take j).map fun c => .d (ints c))) := by rw [hG1]; (simp (maxSteps := 2000000) (disch := omega) [go_sem, -List.map_map, nok])
      have q3 : G1 (nx + 11) = some (.row 1 []) := by rw [hG1]; (simp (maxSteps := 2000000) (disch := omega) [go_sem, -List.map_map])
      have kp1 : ∀ m k, H m = some k → G1 m = some k := by
        intro m k hm
        have h8 := hH _ _ hm
        have h9 := kp _ _ hm
        rw [hG1]
        (simp (maxSteps := 2000000) (disch := omega) [go_sem, -List.map_map, h9])
      clear hG1 hnx1 hk1 hGk
      have hne0 : nmo ≠ nx + 11 := by omega
      ((repeat refine WpM.seq ?_); refine WpM.block ?_)
      refine WpM.loop (fun (k : Nat) fr S => k ≤ c.length ∧ ∃ nmi nx G, S = ⟨nx, [], G⟩ ∧ (∀ m k, H m = some k → G m = some k) ∧ G n0 = some (.box [.d (.int .i64 n), .d (cls cs)]) ∧ G (n0 + 9) = some (.box [.d (.int .i64 n), .ms nmo 1 0 j]) ∧ G nmo = some (.row 1 (((turned cs).take j).map fun c => .d (ints c))) ∧ n0 + 9 < nmi ∧ nmo ≠ nmi ∧ G nmi = some (.row 1 ((c.reverse.take k).map lit)) ∧
          fr = frOf [(1, .d (cls xs)), (2, .ptr n0 0), (5, .ptr (n0 + 9) 0), (6, .d (.int .i64 i)), (7, .ms nmi 1 0 k), (8, .d (.int .i64 ((c.length : Int) - 1 - k)))]) (fun k => c.length - k) 0 (St.Le.refl _) (frLe_frOf (by (simp (maxSteps := 2000000) (disch := omega) [go_sem, -List.map_map]))) ⟨by omega, nx + 11, _, _, rfl, kp1, q1, q2, q4, by omega, hne0, q3, rfl⟩ ?_
      clear q1 q2 q3 q4 kp1 hne0 kp kb kg nok hnmo
      clear nx G
      rintro k fr S' ⟨hk, nmi, nx, G, rfl, kp, kb, kg, nok, hni, hne0, nik, rfl⟩
      refine WpM.known fun hGk => ?_
      have hnmo := hGk _ _ nok
      have hnmi := hGk _ _ nik
      simp only at hnmo hnmi
      by_cases hlk : k < c.length
      · have hgk : (k : Int) ≤ (c.length : Int) - 1 := by omega
        obtain ⟨l, hle⟩ : ∃ l, l = c[c.length - 1 - k] := ⟨_, rfl⟩
        have hgl : (c.map (D.int .i64))[c.length - 1 - k]? = some (.int .i64 l) := by rw [List.getElem?_map, List.getElem?_eq_getElem (by omega), hle]; rfl
        have htl' : c.reverse.take (k + 1) = c.reverse.take k ++ [l] := by rw [List.take_add_one, List.getElem?_reverse hlk, List.getElem?_eq_getElem (by omega), hle]; rfl
        clear hle
        obtain ⟨p, hp⟩ : ∃ p, p = c.length - 1 - k := ⟨_, rfl⟩
        rw [← hp] at hgl
        have hcp : (c.length : Int) - 1 - k = (p : Int) := by omega
        have hlen : ((c.reverse.take k).map lit).length = k := by simp; omega
        have htk2 : ((c.reverse.take k).map lit).take k = (c.reverse.take k).map lit := List.take_of_length_le (by omega)
        ((repeat refine WpM.seq ?_); have z_ex := True.intro; refine WpM.regPE [] [(1, _), (2, _), (5, _), (6, _), (7, _), (8, _), (38, _)] (by (refine s_o [(8, _)] rfl rfl rfl z_su rfl q_move z_fp z_ss ?_; refine s_o [(37, _)] rfl rfl rfl z_su rfl q_full z_fp z_ss ?_; exact wpS_nil ⟨rfl, rfl⟩)) z_su ?_; clear z_ex)
        ((repeat refine WpM.seq ?_); refine WpM.condT (by (simp (maxSteps := 2000000) (disch := omega) [go_sem, -List.map_map, hgk])) ?_)
        refine WpM.skip ?_
        rw [hcp]
        ((repeat refine WpM.seq ?_); refine WpM.block ?_)
        ((repeat refine WpM.seq ?_); have z_ex := (And.intro @kb (And.intro @cls.eq_1 (And.intro @hgi (And.intro @ints.eq_1 (And.intro @hgl (And.intro @nik (And.intro @hlen (And.intro @htk2 True.intro)))))))); refine WpM.regPE [] [(1, _), (2, _), (5, _), (6, _), (7, _), (8, _)] (by (refine s_o [(7, _)] rfl rfl rfl z_su rfl q_move z_fp z_ss ?_; refine s_o [(2, _)] rfl rfl rfl z_su rfl q_fieldAddr z_fp z_ss ?_; refine s_o [(42, _)] rfl rfl rfl z_su rfl q_load z_fp z_ss ?_; refine s_o [(6, _)] rfl rfl rfl z_su rfl q_move z_fp z_ss ?_; refine s_o [(43, _), (44, _)] rfl rfl rfl z_su rfl q_full z_fp z_ss ?_; refine s_o [(45, _)] rfl rfl rfl z_su rfl q_load z_fp z_ss ?_; refine s_o [(8, _)] rfl rfl rfl z_su rfl q_move z_fp z_ss ?_; refine s_o [(46, _), (47, _)] rfl rfl rfl z_su rfl q_full z_fp z_ss ?_; refine s_o [(48, _)] rfl rfl rfl z_su rfl q_load z_fp z_ss ?_; refine s_o [(49, _)] rfl rfl rfl z_su rfl q_full z_fp z_ss ?_; refine s_o [(41, _), (50, _)] rfl rfl rfl z_su rfl q_full z_fp z_ss ?_; refine s_o [(51, _)] rfl rfl rfl z_su rfl q_move z_fp z_ss ?_; exact wpS_nil ⟨rfl, rfl⟩)) z_su ?_; clear z_ex)
        refine WpM.norm ?_
        intro nx1 G1 hnx1 hG1 hk1
        have q1 : G1 n0 = some (.box [.d (.int .i64 n), .d (cls cs)]) := by rw [hG1]; (simp (maxSteps := 2000000) (disch := omega) [go_sem, -List.map_map, kb])
        have q2 : G1 (n0 + 9) = some (.box [.d (.int .i64 n), .ms nmo 1 0 j]) := by rw [hG1]; (simp (maxSteps := 2000000) (disch := omega) [go_sem, -List.map_map, kg])
        have q4 : G1 nmo = some (.row 1 (((turned cs).take j).map fun c => .d (ints c))) := by rw [hG1]; (simp (maxSteps := 2000000) (disch := omega) [go_sem, -List.map_map, nok, hne0])
        have q3 : G1 (nx + 12) = some (.row 1 ((c.reverse.take (k + 1)).map lit)) := by rw [hG1, htl', List.map_append, ← htk2]; (simp (maxSteps := 2000000) (disch := omega) [go_sem, -List.map_map, lit])
        have kp1 : ∀ m k, H m = some k → G1 m = some k := by
          intro m k hm
          have h8 := hH _ _ hm
          have h9 := kp _ _ hm
          rw [hG1]
          (simp (maxSteps := 2000000) (disch := omega) [go_sem, -List.map_map, h9])
        clear hG1 hnx1 hk1
        ((repeat refine WpM.seq ?_); have z_ex := (And.intro @wrap_id True.intro); refine WpM.regPE [] [(1, _), (2, _), (5, _), (6, _), (7, _), (8, _)] (by (refine s_o [(8, _)] rfl rfl rfl z_su rfl q_move z_fp z_ss ?_; refine s_o [(39, _)] rfl rfl rfl z_su rfl q_full z_fp z_ss ?_; refine s_o [(40, _)] rfl rfl rfl z_su rfl q_move z_fp z_ss ?_; exact wpS_nil ⟨rfl, rfl⟩)) z_su ?_; clear z_ex)
        have e9 : ((p : Int) - 1) = (c.length : Int) - 1 - ((k + 1 : Nat) : Int) := by omega
        exact round_end (x' := k + 1) (St.Le.refl _) (frLe_frOf (l := [(1, .d (cls xs)), (2, .ptr n0 0), (5, .ptr (n0 + 9) 0), (6, .d (.int .i64 i)), (7, .ms (nx + 12) 1 0 (k + 1)), (8, .d (.int .i64 ((p : Int) - 1)))]) (by (simp (maxSteps := 2000000) (disch := omega) [go_sem, -List.map_map, wrap_id]))) ⟨by omega, nx + 12, _, _, rfl, kp1, q1, q2, q4, by omega, by omega, q3, by rw [← e9]⟩ (by omega)
      · have hgk : (c.length : Int) - 1 < k := by omega
        obtain rfl : k = c.length := by omega
        rw [List.take_of_length_le (by simp)] at nik
        ((repeat refine WpM.seq ?_); have z_ex := True.intro; refine WpM.regPE [] [(1, _), (2, _), (5, _), (6, _), (7, _), (8, _), (38, _)] (by (refine s_o [(8, _)] rfl rfl rfl z_su rfl q_move z_fp z_ss ?_; refine s_o [(37, _)] rfl rfl rfl z_su rfl q_full z_fp z_ss ?_; exact wpS_nil ⟨rfl, rfl⟩)) z_su ?_; clear z_ex)
        ((repeat refine WpM.seq ?_); refine WpM.condF (by (simp (maxSteps := 2000000) (disch := omega) [go_sem, -List.map_map, hgk])) ?_)
        (refine WpM.exit ?_; (repeat (with_reducible (first | refine thenM_exit ?_ | refine blockM_eq ?_ | refine blockM_ne (by decide) ?_))))
        have hd2 : ((c.reverse.map lit).drop 0).take c.length = (c.reverse.map (D.int .i64)).map V.d := by rw [List.drop_zero, List.take_of_length_le (by simp), List.map_map]; rfl
        refine Upd.wp (Upd.freeze 7 (nm := nmi) (sz := 1) (o := 0) (m := c.length) (xs := c.reverse.map lit) (c.reverse.map (D.int .i64)) (by (simp (maxSteps := 2000000) (disch := omega) [go_sem, -List.map_map])) (by (simp (maxSteps := 2000000) (disch := omega) [go_sem, -List.map_map, nik])) hd2 (by simp) (Upd.done ?_))
        refine WpM.less (St.Le.refl _) (frLe_frOf (l := [(1, .d (cls xs)), (2, .ptr n0 0), (5, .ptr (n0 + 9) 0), (6, .d (.int .i64 i)), (7, .d (ints c.reverse))]) (by (simp (maxSteps := 2000000) (disch := omega) [go_sem, -List.map_map, fset, ints]))) ?_
        refine WpM.norm ?_
        intro nx1 G1 hnx1 hG1 hk1
        have hnx1' : nx1 = nx + 2 := by rw [hnx1]; rfl
        have q1 : G1 n0 = some (.box [.d (.int .i64 n), .d (cls cs)]) := by rw [hG1]; (simp (maxSteps := 2000000) (disch := omega) [go_sem, -List.map_map, kb])
        have q2 : G1 (n0 + 9) = some (.box [.d (.int .i64 n), .ms nmo 1 0 j]) := by rw [hG1]; (simp (maxSteps := 2000000) (disch := omega) [go_sem, -List.map_map, kg])
        have q4 : G1 nmo = some (.row 1 (((turned cs).take j).map fun c => .d (ints c))) := by rw [hG1]; (simp (maxSteps := 2000000) (disch := omega) [go_sem, -List.map_map, nok, hne0])
        have kp1 : ∀ m k, H m = some k → G1 m = some k := by
          intro m k hm
          have h8 := hH _ _ hm
          have h9 := kp _ _ hm
          rw [hG1]
          (simp (maxSteps := 2000000) (disch := omega) [go_sem, -List.map_map, h9])
        clear hG1 hnx1 hk1
        have hjl : (((turned cs).take j).map fun c => V.d (ints c)).length = j := by simp; omega
        have htk3 : (((turned cs).take j).map fun c => V.d (ints c)).take j = ((turned cs).take j).map fun c => V.d (ints c) := List.take_of_length_le (by omega)
        ((repeat refine WpM.seq ?_); have z_ex := (And.intro @q2 (And.intro @q4 (And.intro @hjl (And.intro @htk3 (And.intro @ints.eq_1 True.intro))))); refine WpM.regPE [] [(1, _), (2, _), (5, _), (6, _)] (by (refine s_o [(5, _)] rfl rfl rfl z_su rfl q_fieldAddr z_fp z_ss ?_; refine s_o [(52, _)] rfl rfl rfl z_su rfl q_load z_fp z_ss ?_; refine s_o [(7, _)] rfl rfl rfl z_su rfl q_move z_fp z_ss ?_; refine s_o [(54, _)] rfl rfl rfl z_su rfl q_full z_fp z_ss ?_; refine s_o [(53, _), (55, _)] rfl rfl rfl z_su rfl q_full z_fp z_ss ?_; refine s_o [(5, _)] rfl rfl rfl z_su rfl q_fieldAddr z_fp z_ss ?_; refine s_o [(56, _), (57, _)] rfl rfl rfl z_su rfl q_store z_fp z_ss ?_; exact wpS_nil ⟨rfl, rfl⟩)) z_su ?_; clear z_ex)
        refine WpM.norm ?_
        intro nx2 G2 hnx2 hG2 hk2
        have p1 : G2 n0 = some (.box [.d (.int .i64 n), .d (cls cs)]) := by rw [hG2]; (simp (maxSteps := 2000000) (disch := omega) [go_sem, -List.map_map, q1])
        have p2 : G2 (n0 + 9) = some (.box [.d (.int .i64 n), .ms (nx1 + 4) 1 0 (j + 1)]) := by rw [hG2]; (simp (maxSteps := 2000000) (disch := omega) [go_sem, -List.map_map, List.set])
        have p3 : G2 (nx1 + 4) = some (.row 1 (((turned cs).take (j + 1)).map fun c => .d (ints c))) := by rw [hG2, htk, List.map_append, ← htk3]; (simp (maxSteps := 2000000) (disch := omega) [go_sem, -List.map_map, ints])
        have kp2 : ∀ m k, H m = some k → G2 m = some k := by
          intro m k hm
          have h8 := hH _ _ hm
          have h9 := kp1 _ _ hm
          rw [hG2]
          (simp (maxSteps := 2000000) (disch := omega) [go_sem, -List.map_map, h9])
        clear hG2 hnx2 hk2
        have e9 : ((i : Int) - 1) = (cs.length : Int) - 1 - ((j + 1 : Nat) : Int) := by omega
        ((repeat refine WpM.seq ?_); have z_ex := (And.intro @wrap_id True.intro); refine WpM.regPE [] [(1, _), (2, _), (5, _), (6, _)] (by (refine s_o [(6, _)] rfl rfl rfl z_su rfl q_move z_fp z_ss ?_; refine s_o [(28, _)] rfl rfl rfl z_su rfl q_full z_fp z_ss ?_; refine s_o [(29, _)] rfl rfl rfl z_su rfl q_move z_fp z_ss ?_; exact wpS_nil ⟨rfl, rfl⟩)) z_su ?_; clear z_ex)
        exact round_end (x' := j + 1) (St.Le.refl _) (frLe_frOf (l := [(1, .d (cls xs)), (2, .ptr n0 0), (5, .ptr (n0 + 9) 0), (6, .d (.int .i64 ((i : Int) - 1)))]) (by (simp (maxSteps := 2000000) (disch := omega) [go_sem, -List.map_map, wrap_id]))) ⟨by omega, nx1 + 4, _, _, rfl, kp2, p1, p2, by omega, p3, by rw [← e9]⟩ (by omega)
    · have hge : (cs.length : Int) - 1 < j := by omega
      ((repeat refine WpM.seq ?_); have z_ex := True.intro; refine WpM.regPE [] [(1, _), (2, _), (5, _), (6, _), (27, _)] (by (refine s_o [(6, _)] rfl rfl rfl z_su rfl q_move z_fp z_ss ?_; refine s_o [(26, _)] rfl rfl rfl z_su rfl q_full z_fp z_ss ?_; exact wpS_nil ⟨rfl, rfl⟩)) z_su ?_; clear z_ex)
      ((repeat refine WpM.seq ?_); refine WpM.condF (by (simp (maxSteps := 2000000) (disch := omega) [go_sem, -List.map_map, hge])) ?_)
      (refine WpM.exit ?_; (repeat (with_reducible (first | refine thenM_exit ?_ | refine blockM_eq ?_ | refine blockM_ne (by decide) ?_))))
      obtain rfl : j = cs.length := by omega
      rw [List.take_of_length_le (by omega)] at nok
      have hd2 : ((((turned cs).map fun c => V.d (ints c)).drop 0).take cs.length) = ((turned cs).map ints).map V.d := by rw [List.drop_zero, List.take_of_length_le (by simp [turned]), List.map_map]; rfl
      refine Upd.wp (Upd.freezeIn (n0 + 9) 1 (nm := nmo) (sz := 1) (o := 0) (m := cs.length) (cs := [.d (.int .i64 n), .ms nmo 1 0 cs.length]) (xs := (turned cs).map fun c => .d (ints c)) ((turned cs).map ints) (by (simp (maxSteps := 2000000) (disch := omega) [go_sem, -List.map_map, kg])) rfl (by (simp (maxSteps := 2000000) (disch := omega) [go_sem, -List.map_map, nok])) hd2 (by simp [turned]) (Upd.done ?_))
      refine WpM.norm ?_
      intro nx1 G1 hnx1 hG1 hk1
      have q1 : G1 n0 = some (.box [.d (.int .i64 n), .d (cls cs)]) := by rw [hG1]; (simp (maxSteps := 2000000) (disch := omega) [go_sem, -List.map_map, kb])
      have q2 : G1 (n0 + 9) = some (.box [.d (.int .i64 n), .d (cls (turned cs))]) := by rw [hG1]; (simp (maxSteps := 2000000) (disch := omega) [go_sem, -List.map_map, List.set, cls])
      have kp1 : ∀ m k, H m = some k → G1 m = some k := by
        intro m k hm
        have h8 := hH _ _ hm
        have h9 := kp _ _ hm
        rw [hG1]
        (simp (maxSteps := 2000000) (disch := omega) [go_sem, -List.map_map, h9])
      clear hG1 hnx1 hk1
      have hml4 := mass_turned cs
      have ht2 := mem_le (cs := turned cs) (b := 20000) (by omega)
      have c1 := first20 n cs xs hcl' hcs' hxl' hxs'
      have c2 := first20 n (turned cs) xs (by omega) (fun c hc => by have := ht2.2 c hc; omega) hxl' hxs'
      rw [firstN_turned, soundP_turned] at c2
      ((repeat refine WpM.seq ?_); have z_ex := (And.intro @q1 (And.intro @cnf.eq_1 True.intro)); refine WpM.regPE [] [(1, _), (5, _), (9, _), (10, _)] (by (refine s_o [(2, _)] rfl rfl rfl z_su rfl q_load z_fp z_ss ?_; refine s_o [(1, _)] rfl rfl rfl z_su rfl q_move z_fp z_ss ?_; refine s_pure (callOf_eq rfl rfl rfl (mlk_tmp z_lk (mlk_tmp z_lk mlk_nil))) (c1) rfl rfl z_ip z_fp ?_; refine s_o [(61, _)] rfl rfl rfl z_su rfl q_move z_fp z_ss ?_; refine s_o [(58, _)] rfl rfl rfl z_su rfl q_extract z_fp z_ss ?_; refine s_o [(58, _)] rfl rfl rfl z_su rfl q_extract z_fp z_ss ?_; refine s_o [(62, _)] rfl rfl rfl z_su rfl q_move z_fp z_ss ?_; refine s_o [(63, _)] rfl rfl rfl z_su rfl q_move z_fp z_ss ?_; exact wpS_nil ⟨rfl, rfl⟩)) z_su ?_; clear z_ex)
      ((repeat refine WpM.seq ?_); have z_ex := (And.intro @q2 (And.intro @cnf.eq_1 True.intro)); refine WpM.regPE [] [(9, _), (10, _), (11, _), (12, _)] (by (refine s_o [(5, _)] rfl rfl rfl z_su rfl q_load z_fp z_ss ?_; refine s_o [(1, _)] rfl rfl rfl z_su rfl q_move z_fp z_ss ?_; refine s_pure (callOf_eq rfl rfl rfl (mlk_tmp z_lk (mlk_tmp z_lk mlk_nil))) (c2) rfl rfl z_ip z_fp ?_; refine s_o [(67, _)] rfl rfl rfl z_su rfl q_move z_fp z_ss ?_; refine s_o [(64, _)] rfl rfl rfl z_su rfl q_extract z_fp z_ss ?_; refine s_o [(64, _)] rfl rfl rfl z_su rfl q_extract z_fp z_ss ?_; refine s_o [(68, _)] rfl rfl rfl z_su rfl q_move z_fp z_ss ?_; refine s_o [(69, _)] rfl rfl rfl z_su rfl q_move z_fp z_ss ?_; exact wpS_nil ⟨rfl, rfl⟩)) z_su ?_; clear z_ex)
      ((repeat refine WpM.seq ?_); have z_ex := True.intro; refine WpM.regPE [] [(4, _)] (by (refine s_o [(9, _)] rfl rfl rfl z_su rfl q_move z_fp z_ss ?_; refine s_o [(11, _)] rfl rfl rfl z_su rfl q_move z_fp z_ss ?_; refine s_o [(70, _), (71, _)] rfl rfl rfl z_su rfl q_full z_fp z_ss ?_; refine s_o [(72, _)] rfl rfl rfl z_su rfl q_move z_fp z_ss ?_; (first | (refine s_wT ?_ ?_; focus (refine guardM_at rfl rfl z_lk ?_; (simp (disch := omega) [go_sem, -List.map_map, z_ex]); done)) | (refine s_wF ?_ ?_; focus (refine guardM_at rfl rfl z_lk ?_; (simp (disch := omega) [go_sem, -List.map_map, z_ex]); done))); intro z_g; (first | refine s_skip rfl z_g z_fp ?_ | (refine s_o [(10, _)] rfl z_g rfl z_su rfl q_move z_fp z_ss ?_)); clear z_g; (first | (refine s_wT ?_ ?_; focus (refine guardM_at rfl rfl z_lk ?_; (simp (disch := omega) [go_sem, -List.map_map, z_ex]); done)) | (refine s_wF ?_ ?_; focus (refine guardM_at rfl rfl z_lk ?_; (simp (disch := omega) [go_sem, -List.map_map, z_ex]); done))); intro z_g; (first | refine s_skip rfl z_g z_fp ?_ | (refine s_o [(12, _)] rfl z_g rfl z_su rfl q_move z_fp z_ss ?_)); clear z_g; (first | (refine s_wT ?_ ?_; focus (refine guardM_at rfl rfl z_lk ?_; (simp (disch := omega) [go_sem, -List.map_map, z_ex]); done)) | (refine s_wF ?_ ?_; focus (refine guardM_at rfl rfl z_lk ?_; (simp (disch := omega) [go_sem, -List.map_map, z_ex]); done))); intro z_g; (first | refine s_skip rfl z_g z_fp ?_ | (refine s_o [(74, _), (75, _)] rfl z_g rfl z_su rfl q_full z_fp z_ss ?_)); clear z_g; refine s_o [(73, _), (76, _)] rfl rfl rfl z_su rfl q_move z_fp z_ss ?_; refine s_o [(77, _)] rfl rfl rfl z_su rfl q_move z_fp z_ss ?_; exact wpS_nil ⟨rfl, rfl⟩)) z_su ?_; clear z_ex)
      refine WpM.ret ?_
      exact ⟨.inr rfl, Upd.done ⟨.d (.bool true), (by (simp (maxSteps := 2000000) (disch := omega) [go_sem, -List.map_map, resV, resVs, resV1])), rfl, fun m k _ hk => kp1 m k hk⟩⟩
theorem proofTurned_law (n : Int) (cs : List (List Int)) (_ : IntOk .i64 n) (hcl : cs.length ≤ 1048576) (hcs : ∀ c ∈ cs, c.length ≤ 1048576) (_ : ∀ c ∈ cs, ∀ l ∈ c, IntOk .i64 l) (xs : List (List Int)) (hxl : xs.length ≤ 1048576) (hxs : ∀ c ∈ xs, c.length ≤ 1048576) (_ : ∀ c ∈ xs, ∀ l ∈ c, IntOk .i64 l) :
    PureC Try.prog 4 [.d (cnf n cs), .d (cls xs)] (.d (.bool true)) := law4 n cs xs hcl hcs hxl hxs
end Go.Proofs.Ytafeehlpmdligaa
