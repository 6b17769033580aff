/- proof.(*checker).add. -/
import Derived.Test.YtafeehlpmdligaaROp
import Derived.Test.YtafeehlpmdligaaRCkPure
namespace Go.Proofs.Ytafeehlpmdligaa
open Go.RowKit M
set_option linter.unusedSimpArgs false
set_option linter.unusedVariables false
set_option maxHeartbeats 8000000 in
theorem add42 (H0 : Nat → Option Blk) (ck : Nat) (cs : List (List Int)) (c : List Int) (S : St) (h : CkS H0 ck cs S.get) (hb : mass cs + c.length ≤ 1000000000) (hl : ∀ l ∈ c, -4096 ≤ l ∧ l ≤ 4096) :
    CallM Try.prog 42 [.ptr ck 0, .d (ints c)] S fun r S' => CkS H0 ck (cs ++ [c]) S'.get := by
  refine CallM.start (n := 59) Try.func42 rfl rfl (by simp) (by simp only [argL, Nat.reduceAdd] <;> rfl) ?_
  intro hH
  obtain ⟨H, hHe⟩ : ∃ H, H = S.get := ⟨_, rfl⟩
  obtain ⟨n0, hne⟩ : ∃ n0, n0 = S.next := ⟨_, rfl⟩
  rw [← hHe, ← hne] at hH ⊢
  rw [← hHe] at h
  obtain ⟨nc, na, ns, am, nr, hE⟩ := h
  have k1 := hE.box
  have k2 := hE.rows
  have g1 : ck < n0 := hH _ _ k1
  have g2 : nc < n0 := hH _ _ k2
  have g3 : na < n0 := hH _ _ hE.at_.map
  have g4 : ns < n0 := hH _ _ hE.single
  have g5 : ck ≠ nc := by rintro rfl; rw [k1] at k2; cases k2
  have hlm := len_mass cs
  have hsl := singles_len cs
  have hcl : (cs.map fun c => V.d (ints c)).take cs.length = cs.map fun c => V.d (ints c) := List.take_of_length_le (by simp)
  have hap := hE.apart
  have r := hE.row_ne
  ((repeat refine WpM.seq ?_); have z_ex := (And.intro @ints.eq_1 True.intro); refine WpM.regPE [] [(0, _), (3, _)] (by (refine s_o [(1, _)] rfl rfl rfl z_su rfl q_box z_fp z_ss ?_; exact wpS_nil ⟨rfl, rfl⟩)) z_su ?_; clear z_ex)
  ((repeat refine WpM.seq ?_); have z_ex := (And.intro @k1 True.intro); refine WpM.regPE [] [(0, _), (3, _), (4, _)] (by (refine s_o [(0, _)] rfl rfl rfl z_su rfl q_move z_fp z_ss ?_; refine s_o [(7, _)] rfl rfl rfl z_su rfl q_move z_fp z_ss ?_; refine s_o [(8, _)] rfl rfl rfl z_su rfl q_fieldAddr z_fp z_ss ?_; refine s_o [(9, _)] rfl rfl rfl z_su rfl q_load z_fp z_ss ?_; refine s_o [(10, _)] rfl rfl rfl z_su rfl q_full z_fp z_ss ?_; refine s_o [(11, _)] rfl rfl rfl z_su rfl q_move z_fp z_ss ?_; exact wpS_nil ⟨rfl, rfl⟩)) z_su ?_; clear z_ex)
  ((repeat refine WpM.seq ?_); have z_ex := (And.intro @k1 (And.intro @k2 (And.intro @ints.eq_1 (And.intro @hcl True.intro)))); refine WpM.drwPE [] [(0, _), (3, _), (4, _)] mixed (by kernel_rfl) (by kernel_rfl) [(4, 6)] (by kernel_rfl) (by (refine d_o [(0, _)] rfl rfl rfl z_su rfl q_move z_fp z_ss rfl ?_; refine d_o [(0, _)] rfl rfl rfl z_su rfl q_move z_fp z_ss rfl ?_; refine d_o [(13, _)] rfl rfl rfl z_su rfl q_move z_fp z_ss rfl ?_; refine d_o [(14, _)] rfl rfl rfl z_su rfl q_fieldAddr z_fp z_ss rfl ?_; refine d_o [(15, _)] rfl rfl rfl z_su rfl q_load z_fp z_ss rfl ?_; refine d_o [(3, _)] rfl rfl rfl z_su rfl q_load z_fp z_ss rfl ?_; refine d_o [(17, _)] rfl rfl rfl z_su rfl q_full z_fp z_ss rfl ?_; refine d_o [(16, _), (18, _)] rfl rfl rfl z_su rfl q_full z_fp z_ss rfl ?_; refine d_o [(12, _)] rfl rfl rfl z_su rfl q_move z_fp z_ss rfl ?_; refine d_o [(20, _)] rfl rfl rfl z_su rfl q_fieldAddr z_fp z_ss rfl ?_; refine d_o [(19, _), (21, _)] rfl rfl rfl z_su rfl q_store z_fp z_ss rfl ?_; exact d_end z_mt z_sn)) z_su ?_; clear z_ex)
  ((repeat refine WpM.seq ?_); have z_ex := (And.intro @ints.eq_1 True.intro); refine WpM.regPE [] [(0, _), (3, _), (4, _), (22, _), (23, _), (24, _)] (by (refine s_o [(3, _)] rfl rfl rfl z_su rfl q_load z_fp z_ss ?_; refine s_o [(22, _)] rfl rfl rfl z_su rfl q_full z_fp z_ss ?_; refine s_o [] rfl rfl rfl z_su rfl q_move z_fp z_ss ?_; exact wpS_nil ⟨rfl, rfl⟩)) z_su ?_; clear z_ex)
  ((repeat refine WpM.seq ?_); refine WpM.block ?_)
  refine WpM.norm ?_
  intro nx0 G0 hnx0 hG0 hk0
  have hnx0' : nx0 = n0 + 21 := hnx0
  have q1 : G0 n0 = some (.box [.d (ints c)]) := by rw [hG0]; (simp (maxSteps := 2000000) (disch := omega) [go_sem, -List.map_map, ints])
  have q2 : G0 (n0 + 14) = some (.row 1 ((cs ++ [c]).map fun c => .d (ints c))) := by rw [hG0, List.map_append, ← hcl]; (simp (maxSteps := 2000000) (disch := omega) [go_sem, -List.map_map, ints])
  have q3 : G0 ck = some (.box [.ms (n0 + 14) 1 0 (cs ++ [c]).length, .map na, .ms ns 1 0 (singles cs).length]) := by rw [hG0]; (simp (maxSteps := 2000000) (disch := omega) [go_sem, -List.map_map])
  have old : ∀ m k, H m = some k → m ≠ nc → m ≠ ck → G0 m = some k := by
    intro m k hm h1 h2
    have := hH _ _ hm
    rw [hG0]
    (simp (maxSteps := 2000000) (disch := omega) [go_sem, -List.map_map, hm])
  clear hG0 hnx0
  have q4 : CkE H0 ck (cs ++ [c]) G0 (n0 + 14) na ns am nr (ocs cs) (singles cs) := by
    have fresh : ∀ m k, H0 m = some k → m < n0 := fun m k hm => hH _ _ (hE.keep _ _ hm)
    have hn0 : H0 (n0 + 14) = none := by
      cases e : H0 (n0 + 14) with
      | none => rfl
      | some k => have := fresh _ _ e; omega
    refine ⟨fun m k hm => old m k (hE.keep m k hm) (by rintro rfl; rw [hE.onc] at hm; cases hm) (by rintro rfl; rw [hE.own] at hm; cases hm), hE.own, hn0, hE.ona, hE.ons, q3, q2, old _ _ hE.single (Ne.symm hE.ne) (Ne.symm r.2.2.1), by omega, ?_, fun l ho => ⟨?_, (hap l ho).2⟩⟩
    · refine hE.at_.same fun m hm => ?_
      rcases hm with rfl | ⟨l, ho, rfl⟩
      · rw [old _ _ hE.at_.map (Ne.symm r.2.2.2.1) (Ne.symm r.2.1)]; exact hE.at_.map.symm
      · rw [old _ _ (hE.at_.some l ho).2.1 (hap l ho).1 (r.2.2.2.2.2 l ho).1]; exact (hE.at_.some l ho).2.1.symm
    · have := hH _ _ (hE.at_.some l ho).2.1
      omega
  refine WpM.loop (fun (j : Nat) fr S => j ≤ c.length ∧ ∃ nx G nc' am nr, n0 < nx ∧ S = ⟨nx, [], G⟩ ∧ G n0 = some (.box [.d (ints c)]) ∧ CkE H0 ck (cs ++ [c]) G nc' na ns am nr (ocAdd (ocs cs) cs.length (c.take j)) (singles cs) ∧
      fr = frOf [(0, .ptr ck 0), (3, .ptr n0 0), (4, .d (.int .i64 cs.length)), (22, .d (ints c)), (23, .d (.int .i64 c.length)), (24, .d (.int .i64 j))]) (fun j => c.length - j) 0 (St.Le.refl _) (frLe_frOf (by (simp (maxSteps := 2000000) (disch := omega) [go_sem, -List.map_map, ints]))) ⟨by omega, _, _, n0 + 14, am, nr, by omega, rfl, q1, q4, rfl⟩ ?_
  clear q1 q2 q3 q4 old hk0 hE k1 k2 hap r
  rintro j fr S' ⟨hj, nx, G, nc', am, nr, hnx, rfl, kb, hE, rfl⟩
  refine WpM.known fun hG => ?_
  ((repeat refine WpM.seq ?_); have z_ex := True.intro; refine WpM.regPE [] [(0, _), (3, _), (4, _), (22, _), (23, _), (24, _), (25, _)] (by (refine s_o [(23, _), (24, _)] rfl rfl rfl z_su rfl q_full z_fp z_ss ?_; exact wpS_nil ⟨rfl, rfl⟩)) z_su ?_; clear z_ex)
  by_cases hlt : j < c.length
  · ((repeat refine WpM.seq ?_); refine WpM.condT (by (simp (maxSteps := 2000000) (disch := omega) [go_sem, -List.map_map, hlt])) ?_)
    refine WpM.skip ?_
    ((repeat refine WpM.seq ?_); refine WpM.block ?_)
    have hlj := hl c[j] (List.getElem_mem _)
    obtain ⟨l, hle⟩ : ∃ l, l = c[j] := ⟨_, rfl⟩
    have hget : (c.map (D.int .i64))[j]? = some (.int .i64 l) := by simp [hlt, hle]
    rw [← hle] at hlj
    obtain ⟨hl1, hl2⟩ := hlj
    ((repeat refine WpM.seq ?_); have z_ex := (And.intro @hget (And.intro @ints.eq_1 True.intro)); refine WpM.regPE [] [(0, _), (3, _), (4, _), (6, _), (22, _), (23, _), (24, _)] (by (refine s_o [(22, _), (24, _)] rfl rfl rfl z_su rfl q_full z_fp z_ss ?_; refine s_o [(26, _)] rfl rfl rfl z_su rfl q_load z_fp z_ss ?_; refine s_o [(27, _)] rfl rfl rfl z_su rfl q_move z_fp z_ss ?_; exact wpS_nil ⟨rfl, rfl⟩)) z_su ?_; clear z_ex)
    have hn0n : n0 ≠ na := by intro e; rw [e, hE.at_.map] at kb; cases kb
    have hoc : ocAdd (ocs cs) cs.length (c.take (j + 1)) = ocPut (ocAdd (ocs cs) cs.length (c.take j)) cs.length (- -l) := by
      rw [List.take_succ_eq_append_getElem hlt, ← hle]
      simp [ocAdd, List.foldl_append]
    have gna : na < nx := hG _ _ hE.at_.map
    have k1 := hE.box
    have k3 := hE.at_.map
    by_cases ho : ocAdd (ocs cs) cs.length (c.take j) (-l) = []
    · have k6 := hE.at_.none _ ho
      ((repeat refine WpM.seq ?_); have z_ex := (And.intro @k1 (And.intro @k3 (And.intro @k6 (And.intro @wrap_neg (And.intro @wrap_0sub True.intro))))); refine WpM.drwPE [] [(0, _), (3, _), (4, _), (22, _), (23, _), (24, _)] mixed (by kernel_rfl) (by kernel_rfl) [(3, 14), (9, 14), (12, 14), (3, 15)] (by kernel_rfl) (by (refine d_o [(0, _)] rfl rfl rfl z_su rfl q_move z_fp z_ss rfl ?_; refine d_o [(28, _)] rfl rfl rfl z_su rfl q_move z_fp z_ss rfl ?_; refine d_o [(29, _)] rfl rfl rfl z_su rfl q_fieldAddr z_fp z_ss rfl ?_; refine d_o [(30, _)] rfl rfl rfl z_su rfl q_load z_fp z_ss rfl ?_; refine d_o [(6, _)] rfl rfl rfl z_su rfl q_move z_fp z_ss rfl ?_; refine d_o [(32, _)] rfl rfl rfl z_su rfl q_unOp z_fp z_ss rfl ?_; refine d_o [(0, _)] rfl rfl rfl z_su rfl q_move z_fp z_ss rfl ?_; refine d_o [(34, _)] rfl rfl rfl z_su rfl q_move z_fp z_ss rfl ?_; refine d_o [(35, _)] rfl rfl rfl z_su rfl q_fieldAddr z_fp z_ss rfl ?_; refine d_o [(36, _)] rfl rfl rfl z_su rfl q_load z_fp z_ss rfl ?_; refine d_o [(6, _)] rfl rfl rfl z_su rfl q_move z_fp z_ss rfl ?_; refine d_o [(38, _)] rfl rfl rfl z_su rfl q_unOp z_fp z_ss rfl ?_; refine d_o [(37, _), (39, _)] rfl rfl rfl z_su rfl q_lookup z_fp z_ss rfl ?_; refine d_o [(4, _)] rfl rfl rfl z_su rfl q_move z_fp z_ss rfl ?_; refine d_o [(41, _)] rfl rfl rfl z_su rfl q_full z_fp z_ss rfl ?_; refine d_o [(40, _), (42, _)] rfl rfl rfl z_su rfl q_full z_fp z_ss rfl ?_; refine d_o [(31, _), (33, _), (43, _)] rfl rfl rfl z_su rfl q_mapUpdate z_fp z_ss rfl ?_; exact d_end z_mt z_sn)) z_su ?_; clear z_ex)
      refine WpM.norm ?_
      intro nx1 G1 hnx1 hG1 hk1
      have hnx1' : nx < nx1 := by rw [hnx1]; show nx < nx + 21; omega
      have q1 : G1 n0 = some (.box [.d (ints c)]) := by rw [hG1]; (simp (maxSteps := 2000000) (disch := omega) [go_sem, -List.map_map, kb, hn0n])
      have q2 : G1 na = some (.map (.int .i64) (updD am (.int .i64 (-l)) (some (.ms (nx + 19) 1 0 ((ocAdd (ocs cs) cs.length (c.take j) (-l)).length + 1))))) := by rw [hG1]; (simp (maxSteps := 2000000) (disch := omega) [go_sem, -List.map_map, ho])
      have q3 : G1 (nx + 19) = some (.row 1 ((ocAdd (ocs cs) cs.length (c.take j) (-l) ++ [cs.length]).map nlit)) := by rw [hG1]; (simp (maxSteps := 2000000) (disch := omega) [go_sem, -List.map_map, ho, nlit])
      have q4 : ∀ m, m ≠ na → m ≠ nx + 19 → (ocAdd (ocs cs) cs.length (c.take j) (-l) ≠ [] → m ≠ nr (-l)) → G1 m = G m := by
        intro m h1 h2 h3
        rw [hG1]
        (simp (maxSteps := 2000000) (disch := omega) [go_sem, -List.map_map, h1, h2])
      clear hG1 hnx1
      ((repeat refine WpM.seq ?_); have z_ex := (And.intro @wrap_id True.intro); refine WpM.regPE [] [(0, _), (3, _), (4, _), (22, _), (23, _), (24, _)] (by (refine s_o [(24, _)] rfl rfl rfl z_su rfl q_full z_fp z_ss ?_; refine s_o [(44, _)] rfl rfl rfl z_su rfl q_move z_fp z_ss ?_; exact wpS_nil ⟨rfl, rfl⟩)) z_su ?_; clear z_ex)
      refine round_end (x' := j + 1) (St.Le.refl _) (frLe_frOf (by (simp (maxSteps := 2000000) (disch := omega) [go_sem, -List.map_map, wrap_id]))) ⟨by omega, _, _, nc', _, _, ?_, rfl, q1, by rw [hoc]; exact hE.put (-l) (nx + 19) cs.length (fun k hk => by have := hG _ _ hk; simp only at this; omega) q2 q3 q4, rfl⟩ (by omega)
      omega
    · obtain ⟨k6, k7, _⟩ := hE.at_.some _ ho
      have g7 : nr (-l) < nx := hG _ _ k7
      have r1 := (hE.row_ne.2.2.2.2.2 _ ho)
      have hn0r : n0 ≠ nr (-l) := by intro e; rw [e, k7] at kb; cases kb
      have hol : (ocAdd (ocs cs) cs.length (c.take j) (-l)).length ≤ 1000000000 := by
        have h1 := len_ocAdd (n := cs.length) (l := -l) (c.take j) (ocs cs)
        have h2 := len_ocs (l := -l) cs
        rw [List.length_take] at h1
        omega
      have htk : ((ocAdd (ocs cs) cs.length (c.take j) (-l)).map nlit).take (ocAdd (ocs cs) cs.length (c.take j) (-l)).length = (ocAdd (ocs cs) cs.length (c.take j) (-l)).map nlit := List.take_of_length_le (by simp)
      ((repeat refine WpM.seq ?_); have z_ex := (And.intro @k1 (And.intro @k3 (And.intro @k6 (And.intro @k7 (And.intro @htk (And.intro @wrap_neg (And.intro @wrap_0sub True.intro))))))); refine WpM.drwPE [] [(0, _), (3, _), (4, _), (22, _), (23, _), (24, _)] mixed (by kernel_rfl) (by kernel_rfl) [(3, 14), (9, 14), (12, 14), (3, 15)] (by kernel_rfl) (by (refine d_o [(0, _)] rfl rfl rfl z_su rfl q_move z_fp z_ss rfl ?_; refine d_o [(28, _)] rfl rfl rfl z_su rfl q_move z_fp z_ss rfl ?_; refine d_o [(29, _)] rfl rfl rfl z_su rfl q_fieldAddr z_fp z_ss rfl ?_; refine d_o [(30, _)] rfl rfl rfl z_su rfl q_load z_fp z_ss rfl ?_; refine d_o [(6, _)] rfl rfl rfl z_su rfl q_move z_fp z_ss rfl ?_; refine d_o [(32, _)] rfl rfl rfl z_su rfl q_unOp z_fp z_ss rfl ?_; refine d_o [(0, _)] rfl rfl rfl z_su rfl q_move z_fp z_ss rfl ?_; refine d_o [(34, _)] rfl rfl rfl z_su rfl q_move z_fp z_ss rfl ?_; refine d_o [(35, _)] rfl rfl rfl z_su rfl q_fieldAddr z_fp z_ss rfl ?_; refine d_o [(36, _)] rfl rfl rfl z_su rfl q_load z_fp z_ss rfl ?_; refine d_o [(6, _)] rfl rfl rfl z_su rfl q_move z_fp z_ss rfl ?_; refine d_o [(38, _)] rfl rfl rfl z_su rfl q_unOp z_fp z_ss rfl ?_; refine d_o [(37, _), (39, _)] rfl rfl rfl z_su rfl q_lookup z_fp z_ss rfl ?_; refine d_o [(4, _)] rfl rfl rfl z_su rfl q_move z_fp z_ss rfl ?_; refine d_o [(41, _)] rfl rfl rfl z_su rfl q_full z_fp z_ss rfl ?_; refine d_o [(40, _), (42, _)] rfl rfl rfl z_su rfl q_full z_fp z_ss rfl ?_; refine d_o [(31, _), (33, _), (43, _)] rfl rfl rfl z_su rfl q_mapUpdate z_fp z_ss rfl ?_; exact d_end z_mt z_sn)) z_su ?_; clear z_ex)
      refine WpM.norm ?_
      intro nx1 G1 hnx1 hG1 hk1
      have hnx1' : nx < nx1 := by rw [hnx1]; show nx < nx + 21; omega
      have q1 : G1 n0 = some (.box [.d (ints c)]) := by rw [hG1]; (simp (maxSteps := 2000000) (disch := omega) [go_sem, -List.map_map, kb, hn0n, hn0r])
      have q2 : G1 na = some (.map (.int .i64) (updD am (.int .i64 (-l)) (some (.ms (nx + 19) 1 0 ((ocAdd (ocs cs) cs.length (c.take j) (-l)).length + 1))))) := by rw [hG1]; (simp (maxSteps := 2000000) (disch := omega) [go_sem, -List.map_map])
      have q3 : G1 (nx + 19) = some (.row 1 ((ocAdd (ocs cs) cs.length (c.take j) (-l) ++ [cs.length]).map nlit)) := by rw [hG1]; rw [List.map_append, ← htk]; (simp (maxSteps := 2000000) (disch := omega) [go_sem, -List.map_map, nlit])
      have q4 : ∀ m, m ≠ na → m ≠ nx + 19 → (ocAdd (ocs cs) cs.length (c.take j) (-l) ≠ [] → m ≠ nr (-l)) → G1 m = G m := by
        intro m h1 h2 h3
        rw [hG1]
        have := h3 ho
        (simp (maxSteps := 2000000) (disch := omega) [go_sem, -List.map_map, h1, h2, this])
      clear hG1 hnx1
      ((repeat refine WpM.seq ?_); have z_ex := (And.intro @wrap_id True.intro); refine WpM.regPE [] [(0, _), (3, _), (4, _), (22, _), (23, _), (24, _)] (by (refine s_o [(24, _)] rfl rfl rfl z_su rfl q_full z_fp z_ss ?_; refine s_o [(44, _)] rfl rfl rfl z_su rfl q_move z_fp z_ss ?_; exact wpS_nil ⟨rfl, rfl⟩)) z_su ?_; clear z_ex)
      refine round_end (x' := j + 1) (St.Le.refl _) (frLe_frOf (by (simp (maxSteps := 2000000) (disch := omega) [go_sem, -List.map_map, wrap_id]))) ⟨by omega, _, _, nc', _, _, ?_, rfl, q1, by rw [hoc]; exact hE.put (-l) (nx + 19) cs.length (fun k hk => by have := hG _ _ hk; simp only at this; omega) q2 q3 q4, rfl⟩ (by omega)
      omega
  · ((repeat refine WpM.seq ?_); refine WpM.condF (by (simp (maxSteps := 2000000) (disch := omega) [go_sem, -List.map_map, hlt])) ?_)
    (refine WpM.exit ?_; (repeat (with_reducible (first | refine thenM_exit ?_ | refine blockM_eq ?_ | refine blockM_ne (by decide) ?_))))
    obtain rfl : j = c.length := by omega
    rw [List.take_length, ← ocs_snoc] at hE
    have hsg : isSingle c = !(c.any fun l => decide (l ≠ c.headD 0)) := by cases c <;> simp [isSingle]
    have hcf : ∀ S' : St, S'.get n0 = some (.box [.d (ints c)]) → PureS Try.prog 46 [.d (ints c), .fn 66 [.ptr n0 0]] (.d (.bool (c.any fun l => decide (l ≠ c.headD 0)))) S' := by
      intro S' hS'
      refine containsFunc c _ 66 [.ptr n0 0] S' (by omega) (fun x hx S'' hS'' => ?_) ip66
      cases c with
      | nil => cases hx
      | cons a r => exact add66 x a r n0 S'' (hS'' _ _ hS')
    obtain ⟨b, hbe⟩ : ∃ b, b = c.any fun l => decide (l ≠ c.headD 0) := ⟨_, rfl⟩
    rw [← hbe] at hsg hcf
    clear hbe
    have k1 := hE.box
    have k8 := hE.single
    have g8 := hG _ _ k8
    simp only at g8
    have hn0s : n0 ≠ ns := by intro e; rw [e, k8] at kb; cases kb
    have hst : ((singles cs).map nlit).take (singles cs).length = (singles cs).map nlit := List.take_of_length_le (by simp)
    have r := hE.row_ne
    ((repeat refine WpM.seq ?_); have z_ex := (And.intro @kb True.intro); refine WpM.regPE [] [(0, _), (4, _), (48, _)] (by (refine s_o [(3, _)] rfl rfl rfl z_su rfl q_load z_fp z_ss ?_; refine s_o [(3, _)] rfl rfl rfl z_su rfl q_move z_fp z_ss ?_; refine s_at (callOf_eq rfl rfl rfl (mlk_tmp z_lk (mlk_tmp z_lk mlk_nil))) (hcf ⟨_, [], G⟩ kb) rfl rfl z_ip z_fp ?_; refine s_o [(47, _)] rfl rfl rfl z_su rfl q_unOp z_fp z_ss ?_; exact wpS_nil ⟨rfl, rfl⟩)) z_su ?_; clear z_ex)
    cases b with
    | false =>
      have hs : isSingle c = true := by simpa using hsg
      ((repeat refine WpM.seq ?_); refine WpM.condT (by (simp (maxSteps := 2000000) (disch := omega) [go_sem, -List.map_map])) ?_)
      ((repeat refine WpM.seq ?_); have z_ex := (And.intro @k1 (And.intro @k8 (And.intro @hst True.intro))); refine WpM.regPE [] [] (by (refine s_o [(0, _)] rfl rfl rfl z_su rfl q_move z_fp z_ss ?_; refine s_o [(0, _)] rfl rfl rfl z_su rfl q_move z_fp z_ss ?_; refine s_o [(50, _)] rfl rfl rfl z_su rfl q_move z_fp z_ss ?_; refine s_o [(51, _)] rfl rfl rfl z_su rfl q_fieldAddr z_fp z_ss ?_; refine s_o [(52, _)] rfl rfl rfl z_su rfl q_load z_fp z_ss ?_; refine s_o [(4, _)] rfl rfl rfl z_su rfl q_move z_fp z_ss ?_; refine s_o [(54, _)] rfl rfl rfl z_su rfl q_full z_fp z_ss ?_; refine s_o [(53, _), (55, _)] rfl rfl rfl z_su rfl q_full z_fp z_ss ?_; refine s_o [(49, _)] rfl rfl rfl z_su rfl q_move z_fp z_ss ?_; refine s_o [(57, _)] rfl rfl rfl z_su rfl q_fieldAddr z_fp z_ss ?_; refine s_o [(56, _), (58, _)] rfl rfl rfl z_su rfl q_store z_fp z_ss ?_; exact wpS_nil ⟨rfl, rfl⟩)) z_su ?_; clear z_ex)
      refine ⟨.inl rfl, Upd.done ⟨.tup [], (by (simp (maxSteps := 2000000) (disch := omega) [go_sem, -List.map_map, resV, resVs, resV1])), nc', na, nx + 11, am, nr, ?_⟩⟩
      rw [singles_snoc, hs]
      simp only [if_true]
      generalize hG1 : St.get _ = G1
      refine hE.sing (nx + 11) cs.length (fun k hk => by have := hG _ _ hk; simp only at this; omega) ?_ ?_ ?_
      · rw [← hG1]; (simp (maxSteps := 2000000) (disch := omega) [go_sem, -List.map_map])
      · rw [← hG1]; (simp (maxSteps := 2000000) (disch := omega) [go_sem, -List.map_map, nlit])
      · intro m h1 h2 h3
        rw [← hG1]
        (simp (maxSteps := 2000000) (disch := omega) [go_sem, -List.map_map, h1, h2, h3])
    | true =>
      have hs : isSingle c = false := by simpa using hsg
      ((repeat refine WpM.seq ?_); refine WpM.condF (by (simp (maxSteps := 2000000) (disch := omega) [go_sem, -List.map_map])) ?_)
      refine WpM.skip ?_
      refine ⟨.inl rfl, Upd.done ⟨.tup [], (by (simp (maxSteps := 2000000) (disch := omega) [go_sem, -List.map_map, resV, resVs, resV1])), nc', na, ns, am, nr, ?_⟩⟩
      rw [singles_snoc, hs]
      simp only [List.append_nil, Bool.false_eq_true, if_false]
      exact hE
end Go.Proofs.Ytafeehlpmdligaa
