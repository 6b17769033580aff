/- solve.Count: counted word by word. -/
import Derived.Test.YtafeehlpmdligaaQMd
import Derived.Test.YtafeehlpmdligaaQOp
import Derived.Test.YtafeehlpmdligaaQSvI
import Derived.Test.YtafeehlpmdligaaQVe
import Derived.Test.YtafeehlpmdligaaQTrue23
namespace Go.Proofs.Ytafeehlpmdligaa
open Go.RowKit M
set_option linter.unusedSimpArgs false
set_option linter.unusedVariables false
theorem bl_map (ms : List Bool) : ms.map bl = (ms.map D.bool).map V.d := by rw [List.map_map]; rfl
/-- A model in a row of one's own, lent. -/
theorem lend_bools {H : Nat → Option Blk} {nm : Nat} {ms : List Bool} {k : Nat} (hk : ms.length = k) (h : H nm = some (.row 1 (ms.map bl))) : Lend H (.ms nm 1 0 k) (bools ms) := by
  have := Lend.row (H := H) (nm := nm) (sz := 1) (ds := ms.map D.bool) (by rw [← bl_map]; exact h)
  rw [List.length_map, hk] at this
  exact this
theorem true23o (n : Int) (cs : List (List Int)) (ms : List Bool) (nm k : Nat) (S : St) (hcl : cs.length ≤ 140737488351232) (hcs : ∀ c ∈ cs, c.length ≤ 140737488351232) (hm : ms.length ≤ 1048576) (hk : ms.length = k) (h : S.get nm = some (.row 1 (ms.map bl))) :
    PureS Try.prog 23 [.d (cnf n cs), .ms nm 1 0 k] (.tup [.d (.bool (trueF n cs ms).1), .d (.int .i64 (trueF n cs ms).2)]) S := by
  refine PureC.lend (ys := [cnf n cs, bools ms]) rfl (true23 n cs ms hcl hcs hm) rfl fun j a y ha hy => ?_
  match j, ha, hy with
  | 0, ha, hy => injection ha with ha; injection hy with hy; subst ha hy; exact .d _
  | 1, ha, hy => injection ha with ha; injection hy with hy; subst ha hy; exact lend_bools hk h
theorem bit_is {w k : Nat} (hk : k ≤ 64) : decide (IntKind.i64.wrap ((BitVec.ofInt 64 ((w : Int).fdiv (2 ^ (min k 64))) &&& BitVec.ofInt 64 1).toNat : Nat) = 1) = w.testBit k := by
  have e : (w : Int).fdiv (2 ^ (min k 64)) = ((w / 2 ^ k : Nat) : Int) := by
    rw [Nat.min_eq_left hk, Int.fdiv_eq_ediv_of_nonneg _ (by exact_mod_cast Nat.zero_le (2 ^ k))]
    push_cast
    rfl
  rw [e]
  have e2 : (BitVec.ofInt 64 ((w / 2 ^ k : Nat) : Int) &&& BitVec.ofInt 64 1).toNat = w / 2 ^ k % 2 := by
    rw [BitVec.toNat_and, show (BitVec.ofInt 64 1).toNat = 1 from rfl, Nat.and_one_is_mod, BitVec.ofInt_natCast, BitVec.toNat_ofNat]
    omega
  rw [e2, wrap_id (by omega) (by omega), Nat.testBit_eq_decide_div_mod_eq]
  exact decide_eq_decide.2 (by omega)
theorem bl_set (ms : List Bool) (v : Nat) (x : Bool) : (List.map bl ms).set v (V.d (D.bool x)) = (ms.set v x).map bl := by rw [List.map_set]; rfl
set_option maxHeartbeats 8000000 in
theorem count34 (n : Nat) (cs : List (List Int)) (most : Nat) (hchk : checkF n cs = 0) (hn : n ≤ 16) (hmost : most ≤ 9223372036854775807) (hcl : cs.length ≤ 140737488351232) (hcs : ∀ c ∈ cs, c.length ≤ 140737488351232) :
    PureC Try.prog 34 [.d (cnf n cs), .d (.int .i64 most)] (.tup [.d (.int .i64 (min most (cntW cs n (2 ^ n)) : Nat)), .d (.int .i64 0)]) := by
  refine PureC.of (n := 67) Try.func34 rfl rfl (by simp) (by simp only [argL, Nat.reduceAdd] <;> rfl) rfl ?_
  intro n0 H hH
  have c2 := check32 n cs hcl hcs
  rw [hchk] at c2
  have hpow : 2 ^ n ≤ 65536 := Nat.pow_le_pow_right (n := 2) (by omega) hn
  have hm0 : ¬ (most : Int) < 0 := by omega
  have hn16 : ¬ (16 : Int) < n := by omega
  have hpc : ((2 : Int) ^ n) = ((2 ^ n : Nat) : Int) := by push_cast; rfl
  have hshl : IntKind.i64.wrap (2 ^ n) = ((2 ^ n : Nat) : Int) := by
    have key : ∀ (z : Int) (p : Nat), z = p → p ≤ 65536 → IntKind.i64.wrap z = p := fun z p h1 h2 => by rw [h1, wrap_id (by omega) (by omega)]
    exact key _ _ hpc hpow
  ((repeat refine WpM.seq ?_); have z_ex := (And.intro @cnf.eq_1 True.intro); refine WpM.regPE [] [(1, _), (2, _)] (by (refine s_o [(0, _)] rfl rfl rfl z_su rfl q_box z_fp z_ss ?_; refine s_o [] rfl rfl rfl z_su rfl q_move z_fp z_ss ?_; refine s_o [] rfl rfl rfl z_su rfl q_move z_fp z_ss ?_; exact wpS_nil ⟨rfl, rfl⟩)) z_su ?_; clear z_ex)
  ((repeat refine WpM.seq ?_); have z_ex := (And.intro @cnf.eq_1 True.intro); refine WpM.regPE [] [(1, _), (2, _), (6, _)] (by (refine s_o [(2, _)] rfl rfl rfl z_su rfl q_load z_fp z_ss ?_; refine s_pure (callOf_eq rfl rfl rfl (mlk_tmp z_lk mlk_nil)) (c2) rfl rfl z_ip z_fp ?_; refine s_o [(14, _)] rfl rfl rfl z_su rfl q_move z_fp z_ss ?_; exact wpS_nil ⟨rfl, rfl⟩)) z_su ?_; clear z_ex)
  ((repeat refine WpM.seq ?_); refine WpM.block ?_)
  ((repeat refine WpM.seq ?_); have z_ex := True.intro; refine WpM.regPE [] [(1, _), (2, _), (6, _), (15, _)] (by (refine s_o [(6, _)] rfl rfl rfl z_su rfl q_move z_fp z_ss ?_; refine s_o [(16, _)] rfl rfl rfl z_su rfl q_full z_fp z_ss ?_; refine s_o [(17, _)] rfl rfl rfl z_su rfl q_move z_fp z_ss ?_; exact wpS_nil ⟨rfl, rfl⟩)) z_su ?_; clear z_ex)
  ((repeat refine WpM.seq ?_); refine WpM.condF (by (simp (maxSteps := 2000000) (disch := omega) [go_sem, -List.map_map])) ?_)
  ((repeat refine WpM.seq ?_); have z_ex := True.intro; refine WpM.regPE [] [(1, _), (2, _), (19, _)] (by (refine s_o [(1, _)] rfl rfl rfl z_su rfl q_move z_fp z_ss ?_; refine s_o [(20, _)] rfl rfl rfl z_su rfl q_full z_fp z_ss ?_; refine s_o [(21, _)] rfl rfl rfl z_su rfl q_move z_fp z_ss ?_; exact wpS_nil ⟨rfl, rfl⟩)) z_su ?_; clear z_ex)
  ((repeat refine WpM.seq ?_); refine WpM.condF (by (simp (maxSteps := 2000000) (disch := omega) [go_sem, -List.map_map, hm0])) ?_)
  ((repeat refine WpM.seq ?_); have z_ex := True.intro; refine WpM.regPE [] [(1, _), (2, _), (22, _)] (by (refine s_o [(2, _)] rfl rfl rfl z_su rfl q_fieldAddr z_fp z_ss ?_; refine s_o [(23, _)] rfl rfl rfl z_su rfl q_load z_fp z_ss ?_; refine s_o [(24, _)] rfl rfl rfl z_su rfl q_full z_fp z_ss ?_; refine s_o [(25, _)] rfl rfl rfl z_su rfl q_move z_fp z_ss ?_; exact wpS_nil ⟨rfl, rfl⟩)) z_su ?_; clear z_ex)
  ((repeat refine WpM.seq ?_); refine WpM.condF (by (simp (maxSteps := 2000000) (disch := omega) [go_sem, -List.map_map, hn16])) ?_)
  refine WpM.skip ?_
  refine blockM_norm ?_
  ((repeat refine WpM.seq ?_); have z_ex := True.intro; refine WpM.regPE [] [(1, _), (2, _), (7, _)] (by (refine s_o [] rfl rfl rfl z_su rfl q_move z_fp z_ss ?_; exact wpS_nil ⟨rfl, rfl⟩)) z_su ?_; clear z_ex)
  ((repeat refine WpM.seq ?_); have z_ex := (And.intro @wrap_id True.intro); refine WpM.regPE [] [(1, _), (2, _), (7, _), (8, _)] (by (refine s_o [(2, _)] rfl rfl rfl z_su rfl q_fieldAddr z_fp z_ss ?_; refine s_o [(26, _)] rfl rfl rfl z_su rfl q_load z_fp z_ss ?_; refine s_o [(27, _)] rfl rfl rfl z_su rfl q_full z_fp z_ss ?_; refine s_o [(28, _)] rfl rfl rfl z_su rfl q_full z_fp z_ss ?_; refine s_o [(29, _)] rfl rfl rfl z_su rfl q_move z_fp z_ss ?_; exact wpS_nil ⟨rfl, rfl⟩)) z_su ?_; clear z_ex)
  have hrep : List.replicate (n + 1) (V.d (D.bool false)) = (List.replicate (n + 1) false).map bl := by rw [List.map_replicate]; rfl
  rw [hrep]
  ((repeat refine WpM.seq ?_); have z_ex := True.intro; refine WpM.regPE [] [(1, _), (2, _), (7, _), (8, _), (9, _)] (by (refine s_o [] rfl rfl rfl z_su rfl q_move z_fp z_ss ?_; exact wpS_nil ⟨rfl, rfl⟩)) z_su ?_; clear z_ex)
  obtain ⟨p, hp⟩ : ∃ p, p = 2 ^ n := ⟨_, rfl⟩
  rw [← hp] at hshl hpow ⊢
  obtain ⟨nm, hnm⟩ : ∃ nm, nm = n0 + 19 := ⟨_, rfl⟩
  ((repeat refine WpM.seq ?_); refine WpM.block ?_)
  refine WpM.loop (fun (x : Nat × List Bool) fr S => x.1 ≤ p ∧ cntW cs n x.1 ≤ most ∧ x.2.length = n + 1 ∧ x.2.getD 0 false = false ∧ (∃ nx, nm < nx ∧ S = ⟨nx, [(n0, some (.box [.d (.int .i64 n), .d (cls cs)])), (nm, some (.row 1 (x.2.map bl)))], H⟩) ∧ fr = frOf [(1, .d (.int .i64 most)), (2, .ptr n0 0), (7, .d (.int .i64 (cntW cs n x.1))), (8, .ms nm 1 0 (n + 1)), (9, .d (.int .i64 x.1))]) (fun x => p - x.1) (0, List.replicate (n + 1) false) (St.Le.refl _) (by rw [hnm]; exact Sub.le z_su) ⟨by simp, by simp [cntW], by simp, rfl, ⟨n0 + 22, by omega, by rw [hnm]⟩, rfl⟩ ?_
  rintro ⟨word, ms⟩ fr S' ⟨hw, hcm, hms, hm0', ⟨nx, hnx, rfl⟩, rfl⟩
  simp only at hw hcm hms hm0'
  obtain ⟨c, hce⟩ : ∃ c, c = cntW cs n word := ⟨_, rfl⟩
  rw [← hce] at hcm ⊢
  have hnn0 : n0 ≤ nm := by omega
  have hcp : c ≤ word := by rw [hce]; exact cntW_le _ _ _
  have hend : (¬ word < p ∨ ¬ c < most) → min most (cntW cs n p) = c := by
    intro h
    have h1 := cntW_mono cs n hw
    by_cases h2 : word < p
    · have h3 : ¬ c < most := by
        rcases h with h | h
        · exact absurd h2 h
        · exact h
      rw [← hce] at h1; omega
    · obtain rfl : word = p := by omega
      rw [← hce]; omega
  by_cases h1 : word < p
  · by_cases h2 : c < most
    · ((repeat refine WpM.seq ?_); have z_ex := (And.intro @hshl (And.intro @h1 (And.intro @h2 True.intro))); refine WpM.regPE [] [(1, _), (2, _), (7, _), (8, _), (9, _), (39, _)] (by (refine s_o [(9, _)] rfl rfl rfl z_su rfl q_move z_fp z_ss ?_; refine s_o [(2, _)] rfl rfl rfl z_su rfl q_fieldAddr z_fp z_ss ?_; refine s_o [(31, _)] rfl rfl rfl z_su rfl q_load z_fp z_ss ?_; refine s_o [(32, _)] rfl rfl rfl z_su rfl q_full z_fp z_ss ?_; refine s_o [(30, _), (33, _)] rfl rfl rfl z_su rfl q_full z_fp z_ss ?_; refine s_o [(34, _)] rfl rfl rfl z_su rfl q_move z_fp z_ss ?_; refine s_wit ?_; intro z_g; (first | refine s_skip rfl z_g z_fp ?_ | (refine s_o [(7, _)] rfl z_g rfl z_su rfl q_move z_fp z_ss ?_)); clear z_g; refine s_wit ?_; intro z_g; (first | refine s_skip rfl z_g z_fp ?_ | (refine s_o [(1, _)] rfl z_g rfl z_su rfl q_move z_fp z_ss ?_)); clear z_g; refine s_wit ?_; intro z_g; (first | refine s_skip rfl z_g z_fp ?_ | (refine s_o [(36, _), (37, _)] rfl z_g rfl z_su rfl q_full z_fp z_ss ?_)); clear z_g; refine s_o [(35, _), (38, _)] rfl rfl rfl z_su rfl q_move z_fp z_ss ?_; exact wpS_nil ⟨rfl, rfl⟩)) z_su ?_; clear z_ex)
      ((repeat refine WpM.seq ?_); refine WpM.condT (by (simp (maxSteps := 2000000) (disch := omega) [go_sem, -List.map_map, h1, h2])) ?_)
      refine WpM.skip ?_
      ((repeat refine WpM.seq ?_); refine WpM.block ?_)
      ((repeat refine WpM.seq ?_); have z_ex := True.intro; refine WpM.regPE [] [(1, _), (2, _), (7, _), (8, _), (9, _), (10, _)] (by (refine s_o [] rfl rfl rfl z_su rfl q_move z_fp z_ss ?_; exact wpS_nil ⟨rfl, rfl⟩)) z_su ?_; clear z_ex)
      have hnnm : n0 ≠ nm := by omega
      ((repeat refine WpM.seq ?_); refine WpM.block ?_)
      refine WpM.loop (fun (x : Nat × List Bool) fr S => x.1 ≤ n ∧ x.2.length = n + 1 ∧ x.2.getD 0 false = false ∧ (∀ u, 1 ≤ u → u ≤ x.1 → x.2.getD u false = word.testBit (u - 1)) ∧ (∃ nx, nm < nx ∧ S = ⟨nx, [(n0, some (.box [.d (.int .i64 n), .d (cls cs)])), (nm, some (.row 1 (x.2.map bl)))], H⟩) ∧ fr = frOf [(1, .d (.int .i64 most)), (2, .ptr n0 0), (7, .d (.int .i64 c)), (8, .ms nm 1 0 (n + 1)), (9, .d (.int .i64 word)), (10, .d (.int .i64 (x.1 + 1 : Nat)))]) (fun x => n - x.1) (0, ms) (St.Le.refl _) (Sub.le z_su) ⟨by simp, hms, hm0', fun u hu1 hu2 => absurd hu1 (by simp only at hu2; omega), ⟨_, by omega, rfl⟩, rfl⟩ ?_
      rintro ⟨v, mv⟩ fr S' ⟨hv, hmv, hmv0, hbits, ⟨nx, hnx, rfl⟩, rfl⟩
      simp only at hv hmv hmv0 hbits
      by_cases hvn : v < n
      · have hv1 : ((v : Int) + 1) ≤ n := by omega
        have hv2 : v + 1 ≤ n := by omega
        ((repeat refine WpM.seq ?_); have z_ex := (And.intro @hv1 (And.intro @hv2 True.intro)); refine WpM.regPE [] [(1, _), (2, _), (7, _), (8, _), (9, _), (10, _), (45, _)] (by (refine s_o [(10, _)] rfl rfl rfl z_su rfl q_move z_fp z_ss ?_; refine s_o [(2, _)] rfl rfl rfl z_su rfl q_fieldAddr z_fp z_ss ?_; refine s_o [(43, _)] rfl rfl rfl z_su rfl q_load z_fp z_ss ?_; refine s_o [(42, _), (44, _)] rfl rfl rfl z_su rfl q_full z_fp z_ss ?_; exact wpS_nil ⟨rfl, rfl⟩)) z_su ?_; clear z_ex)
        ((repeat refine WpM.seq ?_); refine WpM.condT (by (simp (maxSteps := 2000000) (disch := omega) [go_sem, -List.map_map, hv1, hv2])) ?_)
        refine WpM.skip ?_
        ((repeat refine WpM.seq ?_); refine WpM.block ?_)
        have hbit := bit_is (w := word) (k := v) (by omega)
        rw [Nat.min_eq_left (by omega), show BitVec.ofInt 64 1 = 1#64 from rfl] at hbit
        have hvs : v + 1 < n + 1 := by omega
        have hwv : IntKind.i64.wrap (v : Int) = v := wrap_id (by omega) (by omega)
        have hgm : (mv.map bl)[v + 1]? = some (.d (.bool (mv.getD (v + 1) false))) := by simp [bl, hmv, show v + 1 < n + 1 by omega]
        ((repeat refine WpM.seq ?_); have z_ex := (And.intro @hwv (And.intro @hvs (And.intro @hmv (And.intro @hbit (And.intro @hgm True.intro))))); refine WpM.regPE [] [(1, _), (2, _), (7, _), (8, _), (9, _), (10, _)] (by (refine s_o [(8, _)] rfl rfl rfl z_su rfl q_move z_fp z_ss ?_; refine s_o [(10, _)] rfl rfl rfl z_su rfl q_move z_fp z_ss ?_; refine s_o [(9, _)] rfl rfl rfl z_su rfl q_move z_fp z_ss ?_; refine s_o [(10, _)] rfl rfl rfl z_su rfl q_move z_fp z_ss ?_; refine s_o [(51, _)] rfl rfl rfl z_su rfl q_full z_fp z_ss ?_; refine s_o [(50, _), (52, _)] rfl rfl rfl z_su rfl q_full z_fp z_ss ?_; refine s_o [(53, _)] rfl rfl rfl z_su rfl q_full z_fp z_ss ?_; refine s_o [(54, _)] rfl rfl rfl z_su rfl q_full z_fp z_ss ?_; refine s_o [(48, _), (49, _)] rfl rfl rfl z_su rfl q_full z_fp z_ss ?_; refine s_o [(55, _), (56, _)] rfl rfl rfl z_su rfl q_store z_fp z_ss ?_; exact wpS_nil ⟨rfl, rfl⟩)) z_su ?_; clear z_ex)
        rw [show ∀ z, [V.d (D.bool z)].headD V.undef = V.d (D.bool z) from fun _ => rfl, bl_set]
        refine blockM_norm ?_
        have hnx' : nm < nx + 17 := by omega
        ((repeat refine WpM.seq ?_); have z_ex := (And.intro @wrap_id True.intro); refine WpM.regPE [] [(1, _), (2, _), (7, _), (8, _), (9, _), (10, _)] (by (refine s_o [(10, _)] rfl rfl rfl z_su rfl q_move z_fp z_ss ?_; refine s_o [(46, _)] rfl rfl rfl z_su rfl q_full z_fp z_ss ?_; refine s_o [(47, _)] rfl rfl rfl z_su rfl q_move z_fp z_ss ?_; exact wpS_nil ⟨rfl, rfl⟩)) z_su ?_; clear z_ex)
        exact round_end (x' := (v + 1, mv.set (v + 1) (word.testBit v))) (St.Le.refl _) (Sub.le z_su) ⟨by simp only; omega, by simp [hmv], by simp only; rw [getD_setB, if_neg (by omega)]; exact hmv0, fun u h3 h4 => by
          simp only at h4 ⊢
          rw [getD_setB]
          by_cases hu : v + 1 = u
          · rw [if_pos ⟨hu, by omega⟩, ← hu]; rfl
          · rw [if_neg (fun h => hu h.1)]
            exact hbits u h3 (by omega), ⟨_, hnx', by rw [← hbit]; rfl⟩, rfl⟩ (by simp only; omega)
      · have hv1 : ¬ ((v : Int) + 1) ≤ n := by omega
        have hv2 : ¬ v + 1 ≤ n := by omega
        ((repeat refine WpM.seq ?_); have z_ex := (And.intro @hv1 (And.intro @hv2 True.intro)); refine WpM.regPE [] [(1, _), (2, _), (7, _), (8, _), (9, _), (10, _), (45, _)] (by (refine s_o [(10, _)] rfl rfl rfl z_su rfl q_move z_fp z_ss ?_; refine s_o [(2, _)] rfl rfl rfl z_su rfl q_fieldAddr z_fp z_ss ?_; refine s_o [(43, _)] rfl rfl rfl z_su rfl q_load z_fp z_ss ?_; refine s_o [(42, _), (44, _)] rfl rfl rfl z_su rfl q_full z_fp z_ss ?_; exact wpS_nil ⟨rfl, rfl⟩)) z_su ?_; clear z_ex)
        ((repeat refine WpM.seq ?_); refine WpM.condF (by (simp (maxSteps := 2000000) (disch := omega) [go_sem, -List.map_map, hv1, hv2])) ?_)
        (refine WpM.exit ?_; (repeat (with_reducible (first | refine thenM_exit ?_ | refine blockM_eq ?_ | refine blockM_ne (by decide) ?_))))
        obtain rfl : v = n := by omega
        have hme : mv = wordM v word := wordM_eq hmv hmv0 hbits
        have hsucc : cntW cs v (word + 1) = c + if cs.all (holdsM mv) = true then 1 else 0 := by rw [cntW_succ, ← hce, hme]
        have c3 := fun nx => true23o v cs mv nm (v + 1) ⟨nx, [(n0, some (.box [.d (.int .i64 v), .d (cls cs)])), (nm, some (.row 1 (mv.map bl)))], H⟩ hcl hcs (by omega) hmv (by (simp (maxSteps := 2000000) (disch := omega) [go_sem, -List.map_map]))
        have ht : trueF v cs mv = (cs.all (holdsM mv), 0) := by unfold trueF; rw [if_pos ⟨hchk, by omega⟩]
        rw [ht] at c3
        obtain ⟨b, hb⟩ : ∃ b, b = cs.all (holdsM mv) := ⟨_, rfl⟩
        rw [← hb] at c3 hsucc
        ((repeat refine WpM.seq ?_); have z_ex := (And.intro @cnf.eq_1 True.intro); refine WpM.regPE [] [(1, _), (2, _), (7, _), (8, _), (9, _), (11, _)] (by (refine s_o [(2, _)] rfl rfl rfl z_su rfl q_load z_fp z_ss ?_; refine s_o [(8, _)] rfl rfl rfl z_su rfl q_move z_fp z_ss ?_; refine s_at (callOf_eq rfl rfl rfl (mlk_tmp z_lk (mlk_tmp z_lk mlk_nil))) ((c3 _)) rfl rfl z_ip z_fp ?_; refine s_o [(60, _)] rfl rfl rfl z_su rfl q_move z_fp z_ss ?_; refine s_o [(57, _)] rfl rfl rfl z_su rfl q_extract z_fp z_ss ?_; refine s_o [(57, _)] rfl rfl rfl z_su rfl q_extract z_fp z_ss ?_; refine s_o [(61, _)] rfl rfl rfl z_su rfl q_move z_fp z_ss ?_; refine s_o [(62, _)] rfl rfl rfl z_su rfl q_move z_fp z_ss ?_; exact wpS_nil ⟨rfl, rfl⟩)) z_su ?_; clear z_ex)
        ((repeat refine WpM.seq ?_); have z_ex := True.intro; refine WpM.regPE [] [(1, _), (2, _), (7, _), (8, _), (9, _), (63, _)] (by (refine s_o [(11, _)] rfl rfl rfl z_su rfl q_move z_fp z_ss ?_; exact wpS_nil ⟨rfl, rfl⟩)) z_su ?_; clear z_ex)
        cases b with
        | true =>
          ((repeat refine WpM.seq ?_); refine WpM.condT (by (simp (maxSteps := 2000000) (disch := omega) [go_sem, -List.map_map])) ?_)
          ((repeat refine WpM.seq ?_); have z_ex := (And.intro @wrap_id True.intro); refine WpM.regPE [] [(1, _), (2, _), (7, _), (8, _), (9, _)] (by (refine s_o [(7, _)] rfl rfl rfl z_su rfl q_move z_fp z_ss ?_; refine s_o [(64, _)] rfl rfl rfl z_su rfl q_full z_fp z_ss ?_; refine s_o [(65, _)] rfl rfl rfl z_su rfl q_move z_fp z_ss ?_; exact wpS_nil ⟨rfl, rfl⟩)) z_su ?_; clear z_ex)
          refine blockM_norm ?_
          ((repeat refine WpM.seq ?_); have z_ex := (And.intro @wrap_id True.intro); refine WpM.regPE [] [(1, _), (2, _), (7, _), (8, _), (9, _)] (by (refine s_o [(9, _)] rfl rfl rfl z_su rfl q_move z_fp z_ss ?_; refine s_o [(40, _)] rfl rfl rfl z_su rfl q_full z_fp z_ss ?_; refine s_o [(41, _)] rfl rfl rfl z_su rfl q_move z_fp z_ss ?_; exact wpS_nil ⟨rfl, rfl⟩)) z_su ?_; clear z_ex)
          exact round_end (x' := (word + 1, mv)) (St.Le.refl _) (Sub.le (l' := [(1, .d (.int .i64 most)), (2, .ptr n0 0), (7, .d (.int .i64 (c + 1 : Nat))), (8, .ms nm 1 0 (v + 1)), (9, .d (.int .i64 (word + 1 : Nat)))]) z_su) ⟨by simp only; omega, by simp only; rw [hsucc]; exact h2, hmv, hmv0, ⟨_, by omega, rfl⟩, by simp only; rw [hsucc]; rfl⟩ (by simp only; omega)
        | false =>
          ((repeat refine WpM.seq ?_); refine WpM.condF (by (simp (maxSteps := 2000000) (disch := omega) [go_sem, -List.map_map])) ?_)
          refine WpM.skip ?_
          refine blockM_norm ?_
          ((repeat refine WpM.seq ?_); have z_ex := (And.intro @wrap_id True.intro); refine WpM.regPE [] [(1, _), (2, _), (7, _), (8, _), (9, _)] (by (refine s_o [(9, _)] rfl rfl rfl z_su rfl q_move z_fp z_ss ?_; refine s_o [(40, _)] rfl rfl rfl z_su rfl q_full z_fp z_ss ?_; refine s_o [(41, _)] rfl rfl rfl z_su rfl q_move z_fp z_ss ?_; exact wpS_nil ⟨rfl, rfl⟩)) z_su ?_; clear z_ex)
          exact round_end (x' := (word + 1, mv)) (St.Le.refl _) (Sub.le (l' := [(1, .d (.int .i64 most)), (2, .ptr n0 0), (7, .d (.int .i64 c)), (8, .ms nm 1 0 (v + 1)), (9, .d (.int .i64 (word + 1 : Nat)))]) z_su) ⟨by simp only; omega, by simp only; rw [hsucc]; exact hcm, hmv, hmv0, ⟨_, by omega, rfl⟩, by simp only; rw [hsucc]; rfl⟩ (by simp only; omega)
    · ((repeat refine WpM.seq ?_); have z_ex := (And.intro @hshl (And.intro @h1 (And.intro @h2 True.intro))); refine WpM.regPE [] [(1, _), (2, _), (7, _), (8, _), (9, _), (39, _)] (by (refine s_o [(9, _)] rfl rfl rfl z_su rfl q_move z_fp z_ss ?_; refine s_o [(2, _)] rfl rfl rfl z_su rfl q_fieldAddr z_fp z_ss ?_; refine s_o [(31, _)] rfl rfl rfl z_su rfl q_load z_fp z_ss ?_; refine s_o [(32, _)] rfl rfl rfl z_su rfl q_full z_fp z_ss ?_; refine s_o [(30, _), (33, _)] rfl rfl rfl z_su rfl q_full z_fp z_ss ?_; refine s_o [(34, _)] rfl rfl rfl z_su rfl q_move z_fp z_ss ?_; refine s_wit ?_; intro z_g; (first | refine s_skip rfl z_g z_fp ?_ | (refine s_o [(7, _)] rfl z_g rfl z_su rfl q_move z_fp z_ss ?_)); clear z_g; refine s_wit ?_; intro z_g; (first | refine s_skip rfl z_g z_fp ?_ | (refine s_o [(1, _)] rfl z_g rfl z_su rfl q_move z_fp z_ss ?_)); clear z_g; refine s_wit ?_; intro z_g; (first | refine s_skip rfl z_g z_fp ?_ | (refine s_o [(36, _), (37, _)] rfl z_g rfl z_su rfl q_full z_fp z_ss ?_)); clear z_g; refine s_o [(35, _), (38, _)] rfl rfl rfl z_su rfl q_move z_fp z_ss ?_; exact wpS_nil ⟨rfl, rfl⟩)) z_su ?_; clear z_ex)
      ((repeat refine WpM.seq ?_); refine WpM.condF (by (simp (maxSteps := 2000000) (disch := omega) [go_sem, -List.map_map, h1, h2])) ?_)
      (refine WpM.exit ?_; (repeat (with_reducible (first | refine thenM_exit ?_ | refine blockM_eq ?_ | refine blockM_ne (by decide) ?_))))
      rw [hend (.inr h2)]
      ((repeat refine WpM.seq ?_); have z_ex := True.intro; refine WpM.regPE [] [(4, _), (5, _)] (by (refine s_o [(7, _)] rfl rfl rfl z_su rfl q_move z_fp z_ss ?_; refine s_o [(66, _)] rfl rfl rfl z_su rfl q_move z_fp z_ss ?_; refine s_o [] rfl rfl rfl z_su rfl q_move z_fp z_ss ?_; exact wpS_nil ⟨rfl, rfl⟩)) z_su ?_; clear z_ex)
      (refine WpM.ret ?_; refine ⟨.inr rfl, Upd.done ?_⟩; (simp (maxSteps := 2000000) (disch := omega) [go_sem, -List.map_map, resV, resVs, resV1, hnn0]))
  · ((repeat refine WpM.seq ?_); have z_ex := (And.intro @hshl (And.intro @h1 True.intro)); refine WpM.regPE [] [(1, _), (2, _), (7, _), (8, _), (9, _), (39, _)] (by (refine s_o [(9, _)] rfl rfl rfl z_su rfl q_move z_fp z_ss ?_; refine s_o [(2, _)] rfl rfl rfl z_su rfl q_fieldAddr z_fp z_ss ?_; refine s_o [(31, _)] rfl rfl rfl z_su rfl q_load z_fp z_ss ?_; refine s_o [(32, _)] rfl rfl rfl z_su rfl q_full z_fp z_ss ?_; refine s_o [(30, _), (33, _)] rfl rfl rfl z_su rfl q_full z_fp z_ss ?_; refine s_o [(34, _)] rfl rfl rfl z_su rfl q_move z_fp z_ss ?_; refine s_wit ?_; intro z_g; (first | refine s_skip rfl z_g z_fp ?_ | (refine s_o [(7, _)] rfl z_g rfl z_su rfl q_move z_fp z_ss ?_)); clear z_g; refine s_wit ?_; intro z_g; (first | refine s_skip rfl z_g z_fp ?_ | (refine s_o [(1, _)] rfl z_g rfl z_su rfl q_move z_fp z_ss ?_)); clear z_g; refine s_wit ?_; intro z_g; (first | refine s_skip rfl z_g z_fp ?_ | (refine s_o [(36, _), (37, _)] rfl z_g rfl z_su rfl q_full z_fp z_ss ?_)); clear z_g; refine s_o [(35, _), (38, _)] rfl rfl rfl z_su rfl q_move z_fp z_ss ?_; exact wpS_nil ⟨rfl, rfl⟩)) z_su ?_; clear z_ex)
    ((repeat refine WpM.seq ?_); refine WpM.condF (by (simp (maxSteps := 2000000) (disch := omega) [go_sem, -List.map_map, h1])) ?_)
    (refine WpM.exit ?_; (repeat (with_reducible (first | refine thenM_exit ?_ | refine blockM_eq ?_ | refine blockM_ne (by decide) ?_))))
    rw [hend (.inl h1)]
    ((repeat refine WpM.seq ?_); have z_ex := True.intro; refine WpM.regPE [] [(4, _), (5, _)] (by (refine s_o [(7, _)] rfl rfl rfl z_su rfl q_move z_fp z_ss ?_; refine s_o [(66, _)] rfl rfl rfl z_su rfl q_move z_fp z_ss ?_; refine s_o [] rfl rfl rfl z_su rfl q_move z_fp z_ss ?_; exact wpS_nil ⟨rfl, rfl⟩)) z_su ?_; clear z_ex)
    (refine WpM.ret ?_; refine ⟨.inr rfl, Upd.done ?_⟩; (simp (maxSteps := 2000000) (disch := omega) [go_sem, -List.map_map, resV, resVs, resV1, hnn0]))
end Go.Proofs.Ytafeehlpmdligaa
