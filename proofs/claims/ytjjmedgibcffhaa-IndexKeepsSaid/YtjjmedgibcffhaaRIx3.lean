/- assizeref05.Copy. -/
import Derived.Test.YtjjmedgibcffhaaROp2
import Derived.Test.YtjjmedgibcffhaaRIx2
namespace Go.Proofs.Ytjjmedgibcffhaa
open Go.RowKit M
set_option linter.unusedSimpArgs false
set_option linter.unusedVariables false
set_option maxHeartbeats 8000000 in
theorem copy31 (h : HistD) (hb : HistB h) : PureC Try.prog 31 [.d (encHist h)] (.d (encHist h)) := by
  refine PureC.of (n := 64) Try.func31 rfl rfl (by simp) (by simp only [argL, Nat.reduceAdd] <;> rfl) rfl ?_
  intro n0 H hH
  have hb1 := hb.keys
  have hb2 := hb.len
  ((repeat refine WpM.seq ?_); have z_ex := True.intro; refine WpM.regPE [] [(1, _), (2, _)] (by (refine s_b [(0, _)] ?_; refine s_a [] ?_; exact wpS_nil ⟨rfl, rfl⟩)) z_su ?_; clear z_ex)
  ((repeat refine WpM.seq ?_); have z_ex := (And.intro @encHist.eq_1 True.intro); refine WpM.regPE [11] [(1, _), (2, _), (3, _)] (by (refine s_q [] ?_; refine s_f [(1, _)] ?_; refine s_l [(9, _)] ?_; refine s_q [(8, _), (10, _)] ?_; refine s_g [(11, _)] ?_; refine s_a [] ?_; refine s_s [(3, _), (12, _)] ?_; exact wpS_nil ⟨rfl, rfl⟩)) z_su ?_; clear z_ex)
  refine Upd.wp (Upd.ghostIn (n0 + 7) 1 5 (cs := [.d (strs h.keys), .nil]) (by (simp (maxSteps := 2000000) (disch := omega) [go_sem, -List.map_map, strs])) (.inl (by rfl)) (Upd.done ?_))
  refine WpM.less (St.Le.refl _) (frLe_frOf (l := [(1, .ptr n0 0), (2, .ptr (n0 + 1) 0), (3, .ptr (n0 + 7) 0)]) (by (simp (maxSteps := 2000000) (disch := omega) [go_sem, -List.map_map]))) ?_
  ((repeat refine WpM.seq ?_); have z_ex := True.intro; refine WpM.regPE [] [(1, _), (2, _), (3, _), (4, _)] (by (refine s_m [] ?_; exact wpS_nil ⟨rfl, rfl⟩)) z_su ?_; clear z_ex)
  ((repeat refine WpM.seq ?_); refine WpM.block ?_)
  refine WpM.loop (fun (j : Nat) fr S => j ≤ h.txns.length ∧ ∃ nx nm xs, n0 + 9 ≤ nm ∧ nm < nx ∧ xs = ((h.txns.take j).map fun t => V.d (encTxn t)) ∧ fr = frOf [(1, .ptr n0 0), (2, .ptr (n0 + 1) 0), (3, .ptr (n0 + 7) 0), (4, .d (.int .i64 j))] ∧ S = ⟨nx, [(n0, some (.box [.d (strs h.keys), .d (.sl (h.txns.map encTxn))])), (n0 + 1, some (.box [.nil, .nil])), (n0 + 7, some (.box [.d (strs h.keys), .ms nm 5 0 xs.length])), (nm, some (.row 5 xs))], H⟩) (fun j => h.txns.length - j) 0 (St.Le.refl _) (frLe_frOf (by (simp (maxSteps := 2000000) (disch := omega) [go_sem, -List.map_map]))) ⟨by omega, n0 + 11, n0 + 9, [], by omega, by omega, by simp, rfl, by (simp (maxSteps := 2000000) (disch := omega) [go_sem, -List.map_map, encHist, strs])⟩ ?_
  rintro j fr S' ⟨hj, nx, nm, xs, hnm, hnx, hxs, rfl, rfl⟩
  have hxl : xs.length = j := by rw [hxs]; simp; omega
  ((repeat refine WpM.seq ?_); have z_ex := True.intro; refine WpM.regPE [] [(1, _), (2, _), (3, _), (4, _), (17, _)] (by (refine s_m [(4, _)] ?_; refine s_f [(1, _)] ?_; refine s_l [(14, _)] ?_; refine s_q [(15, _)] ?_; refine s_q [(13, _), (16, _)] ?_; exact wpS_nil ⟨rfl, rfl⟩)) z_su ?_; clear z_ex)
  by_cases hlt : j < h.txns.length
  · ((repeat refine WpM.seq ?_); refine WpM.condT (by (simp (maxSteps := 2000000) (disch := omega) [go_sem, -List.map_map, hlt])) ?_)
    refine WpM.skip ?_
    ((repeat refine WpM.seq ?_); refine WpM.block ?_)
    obtain ⟨t, ht⟩ : ∃ t, t = h.txns[j] := ⟨_, rfl⟩
    have hget : (h.txns.map encTxn)[j]? = some (encTxn t) := by simp [hlt, ht]
    have htb := hb.txns t (ht ▸ List.getElem_mem _)
    have htl := htb.len
    ((repeat refine WpM.seq ?_); have z_ex := (And.intro @hget (And.intro @encTxn.eq_1 True.intro)); refine WpM.regPE [] [(1, _), (2, _), (3, _), (4, _), (5, _)] (by (refine s_f [(1, _)] ?_; refine s_l [(20, _)] ?_; refine s_m [(4, _)] ?_; refine s_q [(21, _), (22, _)] ?_; refine s_l [(23, _)] ?_; refine s_a [] ?_; refine s_s [(5, _), (24, _)] ?_; exact wpS_nil ⟨rfl, rfl⟩)) z_su ?_; clear z_ex)
    ((repeat refine WpM.seq ?_); have z_ex := True.intro; refine WpM.regPE [] [(1, _), (2, _), (3, _), (4, _), (5, _)] (by (refine s_f [(5, _)] ?_; refine s_s [(25, _)] ?_; exact wpS_nil ⟨rfl, rfl⟩)) z_su ?_; clear z_ex)
    refine Upd.wp (Upd.ghostIn (nx + 10) 4 5 (cs := [.d (.int .i64 t.proc), .d (.int .i64 t.status), .d (.int .i64 t.frm), .d (.int .i64 t.to), .nil]) (by (simp (maxSteps := 2000000) (disch := omega) [go_sem, -List.map_map])) (.inl (by rfl)) (Upd.done ?_))
    refine WpM.less (St.Le.refl _) (frLe_frOf (l := [(1, .ptr n0 0), (2, .ptr (n0 + 1) 0), (3, .ptr (n0 + 7) 0), (4, .d (.int .i64 j)), (5, .ptr (nx + 10) 0)]) (by (simp (maxSteps := 2000000) (disch := omega) [go_sem, -List.map_map]))) ?_
    ((repeat refine WpM.seq ?_); have z_ex := True.intro; refine WpM.regPE [] [(1, _), (2, _), (3, _), (4, _), (5, _), (6, _)] (by (refine s_m [] ?_; exact wpS_nil ⟨rfl, rfl⟩)) z_su ?_; clear z_ex)
    ((repeat refine WpM.seq ?_); refine WpM.block ?_)
    refine WpM.loop (fun (k : Nat) fr S => k ≤ t.ops.length ∧ ∃ ny nr ys, nx + 14 ≤ nr ∧ nr < ny ∧ ys = ((t.ops.take k).map fun o => V.d (encOp o)) ∧ fr = frOf [(1, .ptr n0 0), (2, .ptr (n0 + 1) 0), (3, .ptr (n0 + 7) 0), (4, .d (.int .i64 j)), (5, .ptr (nx + 10) 0), (6, .d (.int .i64 k))] ∧ S = ⟨ny, [(n0, some (.box [.d (strs h.keys), .d (.sl (h.txns.map encTxn))])), (n0 + 1, some (.box [.nil, .nil])), (n0 + 7, some (.box [.d (strs h.keys), .ms nm 5 0 xs.length])), (nm, some (.row 5 xs)), (nx + 10, some (.box [.d (.int .i64 t.proc), .d (.int .i64 t.status), .d (.int .i64 t.frm), .d (.int .i64 t.to), .ms nr 5 0 ys.length])), (nr, some (.row 5 ys))], H⟩) (fun k => t.ops.length - k) 0 (St.Le.refl _) (frLe_frOf (by (simp (maxSteps := 2000000) (disch := omega) [go_sem, -List.map_map]))) ⟨by omega, nx + 16, nx + 14, [], by omega, by omega, by simp, rfl, by (simp (maxSteps := 2000000) (disch := omega) [go_sem, -List.map_map])⟩ ?_
    rintro k fr S' ⟨hk, ny, nr, ys, hnr, hny, hys, rfl, rfl⟩
    have hyl : ys.length = k := by rw [hys]; simp; omega
    ((repeat refine WpM.seq ?_); have z_ex := (And.intro @hget (And.intro @encTxn.eq_1 True.intro)); refine WpM.regPE [] [(1, _), (2, _), (3, _), (4, _), (5, _), (6, _), (34, _)] (by (refine s_m [(6, _)] ?_; refine s_f [(1, _)] ?_; refine s_l [(27, _)] ?_; refine s_m [(4, _)] ?_; refine s_q [(28, _), (29, _)] ?_; refine s_f [(30, _)] ?_; refine s_l [(31, _)] ?_; refine s_q [(32, _)] ?_; refine s_q [(26, _), (33, _)] ?_; exact wpS_nil ⟨rfl, rfl⟩)) z_su ?_; clear z_ex)
    by_cases hlt2 : k < t.ops.length
    · ((repeat refine WpM.seq ?_); refine WpM.condT (by (simp (maxSteps := 2000000) (disch := omega) [go_sem, -List.map_map, hlt2])) ?_)
      refine WpM.skip ?_
      ((repeat refine WpM.seq ?_); refine WpM.block ?_)
      obtain ⟨o, ho⟩ : ∃ o, o = t.ops[k] := ⟨_, rfl⟩
      have hget2 : (t.ops.map encOp)[k]? = some (encOp o) := by simp [hlt2, ho]
      have hob := (htb.ops o (ho ▸ List.getElem_mem _)).vals
      have hys' : ys ++ [V.d (encOp o)] = (t.ops.take (k + 1)).map (fun o => V.d (encOp o)) := by rw [hys, List.take_succ_eq_append_getElem hlt2, ← ho]; simp
      ((repeat refine WpM.seq ?_); have z_ex := (And.intro @hget (And.intro @hget2 (And.intro @encTxn.eq_1 (And.intro @encOp.eq_1 True.intro)))); refine WpM.regPE [] [(1, _), (2, _), (3, _), (4, _), (5, _), (6, _), (7, _)] (by (refine s_f [(1, _)] ?_; refine s_l [(37, _)] ?_; refine s_m [(4, _)] ?_; refine s_q [(38, _), (39, _)] ?_; refine s_f [(40, _)] ?_; refine s_l [(41, _)] ?_; refine s_m [(6, _)] ?_; refine s_q [(42, _), (43, _)] ?_; refine s_l [(44, _)] ?_; refine s_a [] ?_; refine s_s [(7, _), (45, _)] ?_; exact wpS_nil ⟨rfl, rfl⟩)) z_su ?_; clear z_ex)
      ((repeat refine WpM.seq ?_); have z_ex := True.intro; refine WpM.regPE [49] [(1, _), (2, _), (3, _), (4, _), (5, _), (6, _), (7, _)] (by (refine s_q [] ?_; refine s_f [(7, _)] ?_; refine s_l [(47, _)] ?_; refine s_q [(46, _), (48, _)] ?_; refine s_f [(7, _)] ?_; refine s_s [(49, _), (50, _)] ?_; exact wpS_nil ⟨rfl, rfl⟩)) z_su ?_; clear z_ex)
      ((repeat refine WpM.seq ?_); have z_ex := True.intro; refine WpM.regPE [] [(1, _), (2, _), (3, _), (4, _), (5, _), (6, _)] (by (refine s_f [(5, _)] ?_; refine s_l [(51, _)] ?_; refine s_l [(7, _)] ?_; refine s_q [(53, _)] ?_; refine s_q [(52, _), (54, _)] ?_; refine s_f [(5, _)] ?_; refine s_s [(55, _), (56, _)] ?_; exact wpS_nil ⟨rfl, rfl⟩)) z_su ?_; clear z_ex)
      ((repeat refine WpM.seq ?_); have z_ex := (And.intro @wrap_id True.intro); refine WpM.regPE [] [(1, _), (2, _), (3, _), (4, _), (5, _), (6, _)] (by (refine s_m [(6, _)] ?_; refine s_q [(35, _)] ?_; refine s_m [(36, _)] ?_; exact wpS_nil ⟨rfl, rfl⟩)) z_su ?_; clear z_ex)
      exact round_end (x' := k + 1) (le_cut (l' := [(n0, some (.box [.d (strs h.keys), .d (.sl (h.txns.map encTxn))])), (n0 + 1, some (.box [.nil, .nil])), (n0 + 7, some (.box [.d (strs h.keys), .ms nm 5 0 xs.length])), (nm, some (.row 5 xs)), (nx + 10, some (.box [.d (.int .i64 t.proc), .d (.int .i64 t.status), .d (.int .i64 t.frm), .d (.int .i64 t.to), .ms (ny + 30) 5 0 (ys.length + 1)])), (ny + 30, some (.row 5 (ys ++ [V.d (encOp o)])))]) hH (by (simp (maxSteps := 2000000) (disch := omega) [go_sem, -List.map_map]); omega) (Nat.le_refl _) (by (simp (maxSteps := 2000000) (disch := omega) [go_sem, -List.map_map, encOp]))) (frLe_frOf (by (simp (maxSteps := 2000000) (disch := omega) [go_sem, -List.map_map, wrap_id]))) ⟨by omega, ny + 36, ny + 30, _, by omega, by omega, hys', rfl, by (simp (maxSteps := 2000000) (disch := omega) [go_sem, -List.map_map])⟩ (by omega)
    · ((repeat refine WpM.seq ?_); refine WpM.condF (by (simp (maxSteps := 2000000) (disch := omega) [go_sem, -List.map_map, hlt2])) ?_)
      (refine WpM.exit ?_; (repeat (with_reducible (first | refine thenM_exit ?_ | refine blockM_eq ?_ | refine blockM_ne (by decide) ?_))))
      obtain rfl : k = t.ops.length := by omega
      rw [List.take_length] at hys
      refine Upd.wp (Upd.freezeIn (nx + 10) 4 (cs := [.d (.int .i64 t.proc), .d (.int .i64 t.status), .d (.int .i64 t.frm), .d (.int .i64 t.to), .ms nr 5 0 ys.length]) (xs := ys) (t.ops.map encOp) (by (simp (maxSteps := 2000000) (disch := omega) [go_sem, -List.map_map])) (by rfl) (by (simp (maxSteps := 2000000) (disch := omega) [go_sem, -List.map_map])) (by rw [List.drop_zero, List.take_length, hys, List.map_map]; rfl) (by simp [hys]) (Upd.done ?_))
      have hxs' : xs ++ [V.d (encTxn t)] = (h.txns.take (j + 1)).map (fun t => V.d (encTxn t)) := by rw [hxs, List.take_succ_eq_append_getElem hlt, ← ht]; simp
      ((repeat refine WpM.seq ?_); have z_ex := True.intro; refine WpM.regPE [] [(1, _), (2, _), (3, _), (4, _)] (by (refine s_f [(3, _)] ?_; refine s_l [(57, _)] ?_; refine s_l [(5, _)] ?_; refine s_q [(59, _)] ?_; refine s_q [(58, _), (60, _)] ?_; refine s_f [(3, _)] ?_; refine s_s [(61, _), (62, _)] ?_; exact wpS_nil ⟨rfl, rfl⟩)) z_su ?_; clear z_ex)
      ((repeat refine WpM.seq ?_); have z_ex := (And.intro @wrap_id True.intro); refine WpM.regPE [] [(1, _), (2, _), (3, _), (4, _)] (by (refine s_m [(4, _)] ?_; refine s_q [(18, _)] ?_; refine s_m [(19, _)] ?_; exact wpS_nil ⟨rfl, rfl⟩)) z_su ?_; clear z_ex)
      exact round_end (x' := j + 1) (le_cut (l' := [(n0, some (.box [.d (strs h.keys), .d (.sl (h.txns.map encTxn))])), (n0 + 1, some (.box [.nil, .nil])), (n0 + 7, some (.box [.d (strs h.keys), .ms (ny + 13) 5 0 (xs.length + 1)])), (ny + 13, some (.row 5 (xs ++ [V.d (encTxn t)])))]) hH (by (simp (maxSteps := 2000000) (disch := omega) [go_sem, -List.map_map]); omega) (Nat.le_refl _) (by (simp (maxSteps := 2000000) (disch := omega) [go_sem, -List.map_map, encTxn]))) (frLe_frOf (by (simp (maxSteps := 2000000) (disch := omega) [go_sem, -List.map_map, wrap_id]))) ⟨by omega, ny + 19, ny + 13, _, by omega, by omega, hxs', rfl, by (simp (maxSteps := 2000000) (disch := omega) [go_sem, -List.map_map])⟩ (by omega)
  · ((repeat refine WpM.seq ?_); refine WpM.condF (by (simp (maxSteps := 2000000) (disch := omega) [go_sem, -List.map_map, hlt])) ?_)
    (refine WpM.exit ?_; (repeat (with_reducible (first | refine thenM_exit ?_ | refine blockM_eq ?_ | refine blockM_ne (by decide) ?_))))
    obtain rfl : j = h.txns.length := by omega
    rw [List.take_length] at hxs
    refine Upd.wp (Upd.freezeIn (n0 + 7) 1 (cs := [.d (strs h.keys), .ms nm 5 0 xs.length]) (xs := xs) (h.txns.map encTxn) (by (simp (maxSteps := 2000000) (disch := omega) [go_sem, -List.map_map])) (by rfl) (by (simp (maxSteps := 2000000) (disch := omega) [go_sem, -List.map_map])) (by rw [List.drop_zero, List.take_length, hxs, List.map_map]; rfl) (by simp [hxs]) (Upd.done ?_))
    ((repeat refine WpM.seq ?_); have z_ex := (And.intro @strs.eq_1 True.intro); refine WpM.regPE [] [(2, _)] (by (refine s_q [(3, _)] ?_; refine s_q [(2, _), (63, _)] ?_; exact wpS_nil ⟨rfl, rfl⟩)) z_su ?_; clear z_ex)
    (refine WpM.ret ?_; refine ⟨.inr rfl, Upd.done ?_⟩; (simp (maxSteps := 2000000) (disch := omega) [go_sem, -List.map_map, resV, resVs, resV1, encHist, strs]))
    omega
end Go.Proofs.Ytjjmedgibcffhaa
