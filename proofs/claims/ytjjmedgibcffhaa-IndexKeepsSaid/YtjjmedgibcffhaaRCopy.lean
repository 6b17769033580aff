/- ref03.Copy: the same events again. -/
import Derived.Test.YtjjmedgibcffhaaROp2
import Derived.Test.YtjjmedgibcffhaaRIx1
namespace Go.Proofs.Ytjjmedgibcffhaa
open Go.RowKit M
set_option linter.unusedSimpArgs false
set_option maxHeartbeats 8000000 in
theorem copy20 (a : List EventD) (ha : a.length * 40 ≤ 140737488351232) (hb : ∀ e ∈ a, e.calls.length * 64 ≤ 140737488351232 ∧ ∀ c ∈ e.calls, c.vals.length * 8 ≤ 140737488351232) : PureC Try.prog 20 [.d (.sl (a.map encEvent))] (.d (.sl (a.map encEvent))) := by
  refine PureC.of (n := 59) Try.func20 rfl rfl (by simp) (by simp only [argL, Nat.reduceAdd] <;> rfl) rfl ?_
  intro n0 H hH
  ((repeat refine WpM.seq ?_); have z_ex := True.intro; refine WpM.regPE [] [(0, _)] (by (refine s_m [] ?_; exact wpS_nil ⟨rfl, rfl⟩)) z_su ?_; clear z_ex)
  ((repeat refine WpM.seq ?_); have z_ex := True.intro; refine WpM.regPE [] [(0, _), (3, _)] (by (refine s_m [] ?_; exact wpS_nil ⟨rfl, rfl⟩)) z_su ?_; clear z_ex)
  ((repeat refine WpM.seq ?_); have z_ex := True.intro; refine WpM.regPE [] [(0, _), (3, _), (4, _)] (by (refine s_m [] ?_; exact wpS_nil ⟨rfl, rfl⟩)) z_su ?_; clear z_ex)
  ((repeat refine WpM.seq ?_); refine WpM.block ?_)
  refine Upd.wp (Upd.ghost 3 3 (.inl (by (simp (maxSteps := 2000000) (disch := omega) [go_sem, -List.map_map]))) (Upd.done ?_))
  refine WpM.loop (fun (j : Nat) fr S => j ≤ a.length ∧ ∃ nx nm xs, n0 ≤ nm ∧ nm < nx ∧ xs = (a.take j).map (fun e => V.d (encEvent e)) ∧ fr = frOf [(0, .d (.sl (a.map encEvent))), (3, .ms nm 3 0 xs.length), (4, .d (.int .i64 j))] ∧ S = ⟨nx, [(nm, some (.row 3 xs))], H⟩) (fun j => a.length - j) 0 (St.Le.refl _) (frLe_frOf (by (simp (maxSteps := 2000000) (disch := omega) [go_sem, -List.map_map]))) ⟨by omega, _, n0 + 3, [], by omega, ?_, rfl, rfl, rfl⟩ ?_
  · (simp (maxSteps := 2000000) (disch := omega) [go_sem, -List.map_map])
  rintro j fr S ⟨hj, nx, nm, xs, h1, h2, hxs, rfl, rfl⟩
  have hxl : xs.length = j := by rw [hxs]; simp; omega
  ((repeat refine WpM.seq ?_); have z_ex := True.intro; refine WpM.regPE [] [(0, _), (3, _), (4, _), (11, _)] (by (refine s_m [(4, _)] ?_; refine s_m [(0, _)] ?_; refine s_q [(9, _)] ?_; refine s_q [(8, _), (10, _)] ?_; exact wpS_nil ⟨rfl, rfl⟩)) z_su ?_; clear z_ex)
  by_cases hlt : j < a.length
  · ((repeat refine WpM.seq ?_); refine WpM.condT (by (simp (maxSteps := 2000000) (disch := omega) [go_sem, -List.map_map, hlt])) ?_)
    refine WpM.skip ?_
    ((repeat refine WpM.seq ?_); refine WpM.block ?_)
    obtain ⟨hc1, hc2⟩ := hb a[j] (List.getElem_mem _)
    obtain ⟨e, he⟩ : ∃ e, e = a[j] := ⟨_, rfl⟩
    rw [← he] at hc1 hc2
    have hget : (a.map encEvent)[j]? = some (encEvent e) := by simp [hlt, he]
    ((repeat refine WpM.seq ?_); have z_ex := (And.intro @hget (And.intro @encEvent.eq_1 True.intro)); refine WpM.drwPE [] [(0, _), (3, _), (4, _), (5, _)] mixed (by kernel_rfl) (by kernel_rfl) [(4, 11), (9, 11)] (by kernel_rfl) (by (refine d_m [(0, _)] ?_; refine d_m [(4, _)] ?_; refine d_q [(14, _), (15, _)] ?_; refine d_f [(16, _)] ?_; refine d_l [(17, _)] ?_; refine d_m [(0, _)] ?_; refine d_m [(4, _)] ?_; refine d_q [(19, _), (20, _)] ?_; refine d_f [(21, _)] ?_; refine d_l [(22, _)] ?_; refine d_g [(18, _), (23, _)] ?_; refine d_a [] ?_; refine d_s [(5, _), (24, _)] ?_; exact d_end z_mt z_sn)) z_su ?_; clear z_ex)
    ((repeat refine WpM.seq ?_); have z_ex := True.intro; refine WpM.regPE [] [(0, _), (3, _), (4, _), (5, _), (6, _)] (by (refine s_m [] ?_; exact wpS_nil ⟨rfl, rfl⟩)) z_su ?_; clear z_ex)
    ((repeat refine WpM.seq ?_); refine WpM.block ?_)
    refine Upd.wp (Upd.ghostIn (nx + 15) 2 5 (cs := [.d (.int .i64 e.proc), .d (.int .i64 e.kind), .nil]) (by (simp (maxSteps := 2000000) (disch := omega) [go_sem, -List.map_map])) (.inl (by rfl)) (Upd.done ?_))
    refine WpM.loop (fun (k : Nat) fr S => k ≤ e.calls.length ∧ ∃ ny nr ys, nx + 15 < nr ∧ nr < ny ∧ ys = (e.calls.take k).map (fun c => V.d (encCall c)) ∧ fr = frOf [(0, .d (.sl (a.map encEvent))), (3, .ms nm 3 0 xs.length), (4, .d (.int .i64 j)), (5, .ptr (nx + 15) 0), (6, .d (.int .i64 k))] ∧ S = ⟨ny, [(nm, some (.row 3 xs)), (nx + 15, some (.box [.d (.int .i64 e.proc), .d (.int .i64 e.kind), .ms nr 5 0 ys.length])), (nr, some (.row 5 ys))], H⟩) (fun k => e.calls.length - k) 0 (St.Le.refl _) (frLe_frOf (by (simp (maxSteps := 2000000) (disch := omega) [go_sem, -List.map_map]))) ⟨by omega, nx + 19, nx + 18, [], by omega, by omega, by simp, rfl, by (simp (maxSteps := 2000000) (disch := omega) [go_sem, -List.map_map])⟩ ?_
    rintro k fr S ⟨hk, ny, nr, ys, h3, h4, hys, rfl, rfl⟩
    have hyl : ys.length = k := by rw [hys]; simp; omega
    ((repeat refine WpM.seq ?_); have z_ex := (And.intro @hget (And.intro @encEvent.eq_1 True.intro)); refine WpM.regPE [] [(0, _), (3, _), (4, _), (5, _), (6, _), (32, _)] (by (refine s_m [(6, _)] ?_; refine s_m [(0, _)] ?_; refine s_m [(4, _)] ?_; refine s_q [(26, _), (27, _)] ?_; refine s_f [(28, _)] ?_; refine s_l [(29, _)] ?_; refine s_q [(30, _)] ?_; refine s_q [(25, _), (31, _)] ?_; exact wpS_nil ⟨rfl, rfl⟩)) z_su ?_; clear z_ex)
    by_cases hlt2 : k < e.calls.length
    · ((repeat refine WpM.seq ?_); refine WpM.condT (by (simp (maxSteps := 2000000) (disch := omega) [go_sem, -List.map_map, hlt2])) ?_)
      refine WpM.skip ?_
      ((repeat refine WpM.seq ?_); refine WpM.block ?_)
      obtain ⟨c, hc⟩ : ∃ c, c = e.calls[k] := ⟨_, rfl⟩
      have hcv := hc2 c (hc ▸ List.getElem_mem _)
      have hget2 : (e.calls.map encCall)[k]? = some (encCall c) := by simp [hlt2, hc]
      ((repeat refine WpM.seq ?_); have z_ex := (And.intro @hget (And.intro @hget2 (And.intro @encEvent.eq_1 (And.intro @encCall.eq_1 True.intro)))); refine WpM.regPE [] [(0, _), (3, _), (4, _), (5, _), (6, _), (7, _)] (by (refine s_m [(0, _)] ?_; refine s_m [(4, _)] ?_; refine s_q [(35, _), (36, _)] ?_; refine s_f [(37, _)] ?_; refine s_l [(38, _)] ?_; refine s_m [(6, _)] ?_; refine s_q [(39, _), (40, _)] ?_; refine s_l [(41, _)] ?_; refine s_a [] ?_; refine s_s [(7, _), (42, _)] ?_; exact wpS_nil ⟨rfl, rfl⟩)) z_su ?_; clear z_ex)
      ((repeat refine WpM.seq ?_); have z_ex := True.intro; refine WpM.regPE [46] [(0, _), (3, _), (4, _), (5, _), (6, _), (7, _)] (by (refine s_q [] ?_; refine s_f [(7, _)] ?_; refine s_l [(44, _)] ?_; refine s_q [(43, _), (45, _)] ?_; refine s_f [(7, _)] ?_; refine s_s [(46, _), (47, _)] ?_; exact wpS_nil ⟨rfl, rfl⟩)) z_su ?_; clear z_ex)
      ((repeat refine WpM.seq ?_); have z_ex := True.intro; refine WpM.regPE [] [(0, _), (3, _), (4, _), (5, _), (6, _)] (by (refine s_f [(5, _)] ?_; refine s_l [(48, _)] ?_; refine s_l [(7, _)] ?_; refine s_q [(50, _)] ?_; refine s_q [(49, _), (51, _)] ?_; refine s_f [(5, _)] ?_; refine s_s [(52, _), (53, _)] ?_; exact wpS_nil ⟨rfl, rfl⟩)) z_su ?_; clear z_ex)
      ((repeat refine WpM.seq ?_); have z_ex := (And.intro @wrap_id True.intro); refine WpM.regPE [] [(0, _), (3, _), (4, _), (5, _), (6, _)] (by (refine s_m [(6, _)] ?_; refine s_q [(33, _)] ?_; refine s_m [(34, _)] ?_; exact wpS_nil ⟨rfl, rfl⟩)) z_su ?_; clear z_ex)
      have hys' : ys ++ [V.d (encCall c)] = (e.calls.take (k + 1)).map (fun c => V.d (encCall c)) := by rw [hys, List.take_succ_eq_append_getElem hlt2, ← hc]; simp
      exact round_end (x' := k + 1) (le_cut (l' := [(nm, some (.row 3 xs)), (nx + 15, some (.box [.d (.int .i64 e.proc), .d (.int .i64 e.kind), .ms (ny + 28) 5 0 (ys.length + 1)])), (ny + 28, some (.row 5 (ys ++ [V.d (encCall c)])))]) hH (by (simp (maxSteps := 2000000) (disch := omega) [go_sem, -List.map_map]); omega) (Nat.le_refl _) (by (simp (maxSteps := 2000000) (disch := omega) [go_sem, -List.map_map, encCall]))) (frLe_frOf (by (simp (maxSteps := 2000000) (disch := omega) [go_sem, -List.map_map, wrap_id]))) ⟨by omega, ny + 34, ny + 28, _, by omega, by omega, hys', rfl, by (simp (maxSteps := 2000000) (disch := omega) [go_sem, -List.map_map])⟩ (by omega)
    · ((repeat refine WpM.seq ?_); refine WpM.condF (by (simp (maxSteps := 2000000) (disch := omega) [go_sem, -List.map_map, hlt2])) ?_)
      (refine WpM.exit ?_; (repeat (with_reducible (first | refine thenM_exit ?_ | refine blockM_eq ?_ | refine blockM_ne (by decide) ?_))))
      obtain rfl : k = e.calls.length := by omega
      rw [List.take_length] at hys
      refine Upd.wp (Upd.freezeIn (nx + 15) 2 (cs := [.d (.int .i64 e.proc), .d (.int .i64 e.kind), .ms nr 5 0 ys.length]) (xs := ys) (e.calls.map encCall) (by (simp (maxSteps := 2000000) (disch := omega) [go_sem, -List.map_map])) (by rfl) (by (simp (maxSteps := 2000000) (disch := omega) [go_sem, -List.map_map])) (by rw [List.drop_zero, List.take_length, hys, List.map_map]; rfl) (by simp [hys]) (Upd.done ?_))
      ((repeat refine WpM.seq ?_); have z_ex := True.intro; refine WpM.regPE [] [(0, _), (3, _), (4, _)] (by (refine s_m [(3, _)] ?_; refine s_l [(5, _)] ?_; refine s_q [(55, _)] ?_; refine s_q [(54, _), (56, _)] ?_; refine s_m [(57, _)] ?_; exact wpS_nil ⟨rfl, rfl⟩)) z_su ?_; clear z_ex)
      ((repeat refine WpM.seq ?_); have z_ex := (And.intro @wrap_id True.intro); refine WpM.regPE [] [(0, _), (3, _), (4, _)] (by (refine s_m [(4, _)] ?_; refine s_q [(12, _)] ?_; refine s_m [(13, _)] ?_; exact wpS_nil ⟨rfl, rfl⟩)) z_su ?_; clear z_ex)
      have hxs' : xs ++ [V.d (encEvent e)] = (a.take (j + 1)).map (fun e => V.d (encEvent e)) := by rw [hxs, List.take_succ_eq_append_getElem hlt, ← he]; simp
      exact round_end (x' := j + 1) (le_cut (l' := [(ny + 11, some (.row 3 (xs ++ [V.d (encEvent e)])))]) hH (by (simp (maxSteps := 2000000) (disch := omega) [go_sem, -List.map_map]); omega) (Nat.le_refl _) (by (simp (maxSteps := 2000000) (disch := omega) [go_sem, -List.map_map, encEvent]))) (frLe_frOf (by (simp (maxSteps := 2000000) (disch := omega) [go_sem, -List.map_map, wrap_id]))) ⟨by omega, ny + 16, ny + 11, _, by omega, by omega, hxs', rfl, by (simp (maxSteps := 2000000) (disch := omega) [go_sem, -List.map_map])⟩ (by omega)
  · ((repeat refine WpM.seq ?_); refine WpM.condF (by (simp (maxSteps := 2000000) (disch := omega) [go_sem, -List.map_map, hlt])) ?_)
    (refine WpM.exit ?_; (repeat (with_reducible (first | refine thenM_exit ?_ | refine blockM_eq ?_ | refine blockM_ne (by decide) ?_))))
    obtain rfl : j = a.length := by omega
    rw [List.take_length] at hxs
    ((repeat refine WpM.seq ?_); have z_ex := True.intro; refine WpM.regPE [] [(2, _)] (by (refine s_m [(3, _)] ?_; refine s_m [(58, _)] ?_; exact wpS_nil ⟨rfl, rfl⟩)) z_su ?_; clear z_ex)
    refine WpM.ret ?_
    refine ⟨.inr rfl, Upd.freeze 2 (nm := nm) (sz := 3) (o := 0) (m := xs.length) (xs := xs) (a.map encEvent) (by (simp (maxSteps := 2000000) (disch := omega) [go_sem, -List.map_map])) (by (simp (maxSteps := 2000000) (disch := omega) [go_sem, -List.map_map])) (by rw [List.drop_zero, List.take_length, hxs, List.map_map]; rfl) (by simpa using hxl.symm) (Upd.done ?_)⟩
    (simp (maxSteps := 2000000) (disch := omega) [go_sem, -List.map_map, resV, resVs, resV1])
    exact h1
end Go.Proofs.Ytjjmedgibcffhaa
