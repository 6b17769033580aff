/- Part 6 of the texts that stand behind this law. -/
import Derived.Test.YtjjmedgibcffhaaZe5
/- ref03.Copy: the same events again. -/
namespace Go.Proofs.Ytjjmedgibcffhaa
open Go.RowKit M
set_option linter.unusedSimpArgs false
set_option maxHeartbeats 8000000 in
theorem copy20 (a : List EventD) (ha : a.length * 40 ≤ 140737488351232) (hb : ∀ e ∈ a, e.calls.length * 64 ≤ 140737488351232 ∧ ∀ c ∈ e.calls, c.vals.length * 8 ≤ 140737488351232) : PureC Try.prog 20 [.d (.sl (a.map encEvent))] (.d (.sl (a.map encEvent))) := by
  refine PureC.of (n := 59) Try.func20 rfl rfl (by simp) (by simp only [argL, Nat.reduceAdd] <;> rfl) rfl ?_
  intro n0 H hH
  ((repeat refine WpM.seq ?_); have z_ex := True.intro; refine WpM.regPE [] [(0, _)] (by (refine s_o [] rfl rfl rfl z_su rfl q_move z_fp z_ss ?_; exact wpS_nil ⟨rfl, rfl⟩)) z_su ?_; clear z_ex)
  ((repeat refine WpM.seq ?_); have z_ex := True.intro; refine WpM.regPE [] [(0, _), (3, _)] (by (refine s_o [] rfl rfl rfl z_su rfl q_move z_fp z_ss ?_; exact wpS_nil ⟨rfl, rfl⟩)) z_su ?_; clear z_ex)
  ((repeat refine WpM.seq ?_); have z_ex := True.intro; refine WpM.regPE [] [(0, _), (3, _), (4, _)] (by (refine s_o [] rfl rfl rfl z_su rfl q_move z_fp z_ss ?_; exact wpS_nil ⟨rfl, rfl⟩)) z_su ?_; clear z_ex)
  ((repeat refine WpM.seq ?_); refine WpM.block ?_)
  refine Upd.wp (Upd.ghost 3 3 (.inl (by (simp (maxSteps := 2000000) (disch := omega) [go_sem, -List.map_map]))) (Upd.done ?_))
  refine WpM.loop (fun (j : Nat) fr S => j ≤ a.length ∧ ∃ nx nm xs, n0 ≤ nm ∧ nm < nx ∧ xs = (a.take j).map (fun e => V.d (encEvent e)) ∧ fr = frOf [(0, .d (.sl (a.map encEvent))), (3, .ms nm 3 0 xs.length), (4, .d (.int .i64 j))] ∧ S = ⟨nx, [(nm, some (.row 3 xs))], H⟩) (fun j => a.length - j) 0 (St.Le.refl _) (frLe_frOf (by (simp (maxSteps := 2000000) (disch := omega) [go_sem, -List.map_map]))) ⟨by omega, _, n0 + 3, [], by omega, ?_, rfl, rfl, rfl⟩ ?_
  · (simp (maxSteps := 2000000) (disch := omega) [go_sem, -List.map_map])
  rintro j fr S ⟨hj, nx, nm, xs, h1, h2, hxs, rfl, rfl⟩
  have hxl : xs.length = j := by rw [hxs]; simp; omega
  ((repeat refine WpM.seq ?_); have z_ex := True.intro; refine WpM.regPE [] [(0, _), (3, _), (4, _), (11, _)] (by (refine s_o [(4, _)] rfl rfl rfl z_su rfl q_move z_fp z_ss ?_; refine s_o [(0, _)] rfl rfl rfl z_su rfl q_move z_fp z_ss ?_; refine s_o [(9, _)] rfl rfl rfl z_su rfl q_full z_fp z_ss ?_; refine s_o [(8, _), (10, _)] rfl rfl rfl z_su rfl q_full z_fp z_ss ?_; exact wpS_nil ⟨rfl, rfl⟩)) z_su ?_; clear z_ex)
  by_cases hlt : j < a.length
  · ((repeat refine WpM.seq ?_); refine WpM.condT (by (simp (maxSteps := 2000000) (disch := omega) [go_sem, -List.map_map, hlt])) ?_)
    refine WpM.skip ?_
    ((repeat refine WpM.seq ?_); refine WpM.block ?_)
    obtain ⟨hc1, hc2⟩ := hb a[j] (List.getElem_mem _)
    obtain ⟨e, he⟩ : ∃ e, e = a[j] := ⟨_, rfl⟩
    rw [← he] at hc1 hc2
    have hget : (a.map encEvent)[j]? = some (encEvent e) := by simp [hlt, he]
    ((repeat refine WpM.seq ?_); have z_ex := (And.intro @hget (And.intro @encEvent.eq_1 True.intro)); refine WpM.drwPE [] [(0, _), (3, _), (4, _), (5, _)] mixed (by kernel_rfl) (by kernel_rfl) [(4, 11), (9, 11)] (by kernel_rfl) (by (refine d_o [(0, _)] rfl rfl rfl z_su rfl q_move z_fp z_ss rfl ?_; refine d_o [(4, _)] rfl rfl rfl z_su rfl q_move z_fp z_ss rfl ?_; refine d_o [(14, _), (15, _)] rfl rfl rfl z_su rfl q_full z_fp z_ss rfl ?_; refine d_o [(16, _)] rfl rfl rfl z_su rfl q_fieldAddr z_fp z_ss rfl ?_; refine d_o [(17, _)] rfl rfl rfl z_su rfl q_load z_fp z_ss rfl ?_; refine d_o [(0, _)] rfl rfl rfl z_su rfl q_move z_fp z_ss rfl ?_; refine d_o [(4, _)] rfl rfl rfl z_su rfl q_move z_fp z_ss rfl ?_; refine d_o [(19, _), (20, _)] rfl rfl rfl z_su rfl q_full z_fp z_ss rfl ?_; refine d_o [(21, _)] rfl rfl rfl z_su rfl q_fieldAddr z_fp z_ss rfl ?_; refine d_o [(22, _)] rfl rfl rfl z_su rfl q_load z_fp z_ss rfl ?_; refine d_o [(18, _), (23, _)] rfl rfl rfl z_su rfl q_build z_fp z_ss rfl ?_; refine d_o [] rfl rfl rfl z_su rfl q_alloc z_fp z_ss rfl ?_; refine d_o [(5, _), (24, _)] rfl rfl rfl z_su rfl q_store z_fp z_ss rfl ?_; exact d_end z_mt z_sn)) z_su ?_; clear z_ex)
    ((repeat refine WpM.seq ?_); have z_ex := True.intro; refine WpM.regPE [] [(0, _), (3, _), (4, _), (5, _), (6, _)] (by (refine s_o [] rfl rfl rfl z_su rfl q_move z_fp z_ss ?_; exact wpS_nil ⟨rfl, rfl⟩)) z_su ?_; clear z_ex)
    ((repeat refine WpM.seq ?_); refine WpM.block ?_)
    refine Upd.wp (Upd.ghostIn (nx + 15) 2 5 (cs := [.d (.int .i64 e.proc), .d (.int .i64 e.kind), .nil]) (by (simp (maxSteps := 2000000) (disch := omega) [go_sem, -List.map_map])) (.inl (by rfl)) (Upd.done ?_))
    refine WpM.loop (fun (k : Nat) fr S => k ≤ e.calls.length ∧ ∃ ny nr ys, nx + 15 < nr ∧ nr < ny ∧ ys = (e.calls.take k).map (fun c => V.d (encCall c)) ∧ fr = frOf [(0, .d (.sl (a.map encEvent))), (3, .ms nm 3 0 xs.length), (4, .d (.int .i64 j)), (5, .ptr (nx + 15) 0), (6, .d (.int .i64 k))] ∧ S = ⟨ny, [(nm, some (.row 3 xs)), (nx + 15, some (.box [.d (.int .i64 e.proc), .d (.int .i64 e.kind), .ms nr 5 0 ys.length])), (nr, some (.row 5 ys))], H⟩) (fun k => e.calls.length - k) 0 (St.Le.refl _) (frLe_frOf (by (simp (maxSteps := 2000000) (disch := omega) [go_sem, -List.map_map]))) ⟨by omega, nx + 19, nx + 18, [], by omega, by omega, by simp, rfl, by (simp (maxSteps := 2000000) (disch := omega) [go_sem, -List.map_map])⟩ ?_
    rintro k fr S ⟨hk, ny, nr, ys, h3, h4, hys, rfl, rfl⟩
    have hyl : ys.length = k := by rw [hys]; simp; omega
    ((repeat refine WpM.seq ?_); have z_ex := (And.intro @hget (And.intro @encEvent.eq_1 True.intro)); refine WpM.regPE [] [(0, _), (3, _), (4, _), (5, _), (6, _), (32, _)] (by (refine s_o [(6, _)] rfl rfl rfl z_su rfl q_move z_fp z_ss ?_; refine s_o [(0, _)] rfl rfl rfl z_su rfl q_move z_fp z_ss ?_; refine s_o [(4, _)] rfl rfl rfl z_su rfl q_move z_fp z_ss ?_; refine s_o [(26, _), (27, _)] rfl rfl rfl z_su rfl q_full z_fp z_ss ?_; refine s_o [(28, _)] rfl rfl rfl z_su rfl q_fieldAddr z_fp z_ss ?_; refine s_o [(29, _)] rfl rfl rfl z_su rfl q_load z_fp z_ss ?_; refine s_o [(30, _)] rfl rfl rfl z_su rfl q_full z_fp z_ss ?_; refine s_o [(25, _), (31, _)] rfl rfl rfl z_su rfl q_full z_fp z_ss ?_; exact wpS_nil ⟨rfl, rfl⟩)) z_su ?_; clear z_ex)
    by_cases hlt2 : k < e.calls.length
    · ((repeat refine WpM.seq ?_); refine WpM.condT (by (simp (maxSteps := 2000000) (disch := omega) [go_sem, -List.map_map, hlt2])) ?_)
      refine WpM.skip ?_
      ((repeat refine WpM.seq ?_); refine WpM.block ?_)
      obtain ⟨c, hc⟩ : ∃ c, c = e.calls[k] := ⟨_, rfl⟩
      have hcv := hc2 c (hc ▸ List.getElem_mem _)
      have hget2 : (e.calls.map encCall)[k]? = some (encCall c) := by simp [hlt2, hc]
      ((repeat refine WpM.seq ?_); have z_ex := (And.intro @hget (And.intro @hget2 (And.intro @encEvent.eq_1 (And.intro @encCall.eq_1 True.intro)))); refine WpM.regPE [] [(0, _), (3, _), (4, _), (5, _), (6, _), (7, _)] (by (refine s_o [(0, _)] rfl rfl rfl z_su rfl q_move z_fp z_ss ?_; refine s_o [(4, _)] rfl rfl rfl z_su rfl q_move z_fp z_ss ?_; refine s_o [(35, _), (36, _)] rfl rfl rfl z_su rfl q_full z_fp z_ss ?_; refine s_o [(37, _)] rfl rfl rfl z_su rfl q_fieldAddr z_fp z_ss ?_; refine s_o [(38, _)] rfl rfl rfl z_su rfl q_load z_fp z_ss ?_; refine s_o [(6, _)] rfl rfl rfl z_su rfl q_move z_fp z_ss ?_; refine s_o [(39, _), (40, _)] rfl rfl rfl z_su rfl q_full z_fp z_ss ?_; refine s_o [(41, _)] rfl rfl rfl z_su rfl q_load z_fp z_ss ?_; refine s_o [] rfl rfl rfl z_su rfl q_alloc z_fp z_ss ?_; refine s_o [(7, _), (42, _)] rfl rfl rfl z_su rfl q_store z_fp z_ss ?_; exact wpS_nil ⟨rfl, rfl⟩)) z_su ?_; clear z_ex)
      ((repeat refine WpM.seq ?_); have z_ex := True.intro; refine WpM.regPE [46] [(0, _), (3, _), (4, _), (5, _), (6, _), (7, _)] (by (refine s_o [] rfl rfl rfl z_su rfl q_full z_fp z_ss ?_; refine s_o [(7, _)] rfl rfl rfl z_su rfl q_fieldAddr z_fp z_ss ?_; refine s_o [(44, _)] rfl rfl rfl z_su rfl q_load z_fp z_ss ?_; refine s_o [(43, _), (45, _)] rfl rfl rfl z_su rfl q_full z_fp z_ss ?_; refine s_o [(7, _)] rfl rfl rfl z_su rfl q_fieldAddr z_fp z_ss ?_; refine s_o [(46, _), (47, _)] rfl rfl rfl z_su rfl q_store z_fp z_ss ?_; exact wpS_nil ⟨rfl, rfl⟩)) z_su ?_; clear z_ex)
      ((repeat refine WpM.seq ?_); have z_ex := True.intro; refine WpM.regPE [] [(0, _), (3, _), (4, _), (5, _), (6, _)] (by (refine s_o [(5, _)] rfl rfl rfl z_su rfl q_fieldAddr z_fp z_ss ?_; refine s_o [(48, _)] rfl rfl rfl z_su rfl q_load z_fp z_ss ?_; refine s_o [(7, _)] rfl rfl rfl z_su rfl q_load z_fp z_ss ?_; refine s_o [(50, _)] rfl rfl rfl z_su rfl q_full z_fp z_ss ?_; refine s_o [(49, _), (51, _)] rfl rfl rfl z_su rfl q_full z_fp z_ss ?_; refine s_o [(5, _)] rfl rfl rfl z_su rfl q_fieldAddr z_fp z_ss ?_; refine s_o [(52, _), (53, _)] rfl rfl rfl z_su rfl q_store z_fp z_ss ?_; exact wpS_nil ⟨rfl, rfl⟩)) z_su ?_; clear z_ex)
      ((repeat refine WpM.seq ?_); have z_ex := (And.intro @wrap_id True.intro); refine WpM.regPE [] [(0, _), (3, _), (4, _), (5, _), (6, _)] (by (refine s_o [(6, _)] rfl rfl rfl z_su rfl q_move z_fp z_ss ?_; refine s_o [(33, _)] rfl rfl rfl z_su rfl q_full z_fp z_ss ?_; refine s_o [(34, _)] rfl rfl rfl z_su rfl q_move z_fp z_ss ?_; exact wpS_nil ⟨rfl, rfl⟩)) z_su ?_; clear z_ex)
      have hys' : ys ++ [V.d (encCall c)] = (e.calls.take (k + 1)).map (fun c => V.d (encCall c)) := by rw [hys, List.take_succ_eq_append_getElem hlt2, ← hc]; simp
      exact round_end (x' := k + 1) (le_cut (l' := [(nm, some (.row 3 xs)), (nx + 15, some (.box [.d (.int .i64 e.proc), .d (.int .i64 e.kind), .ms (ny + 28) 5 0 (ys.length + 1)])), (ny + 28, some (.row 5 (ys ++ [V.d (encCall c)])))]) hH (by (simp (maxSteps := 2000000) (disch := omega) [go_sem, -List.map_map]); omega) (Nat.le_refl _) (by (simp (maxSteps := 2000000) (disch := omega) [go_sem, -List.map_map, encCall]))) (frLe_frOf (by (simp (maxSteps := 2000000) (disch := omega) [go_sem, -List.map_map, wrap_id]))) ⟨by omega, ny + 34, ny + 28, _, by omega, by omega, hys', rfl, by (simp (maxSteps := 2000000) (disch := omega) [go_sem, -List.map_map])⟩ (by omega)
    · ((repeat refine WpM.seq ?_); refine WpM.condF (by (simp (maxSteps := 2000000) (disch := omega) [go_sem, -List.map_map, hlt2])) ?_)
      (refine WpM.exit ?_; (repeat (with_reducible (first | refine thenM_exit ?_ | refine blockM_eq ?_ | refine blockM_ne (by decide) ?_))))
      obtain rfl : k = e.calls.length := by omega
      rw [List.take_length] at hys
      refine Upd.wp (Upd.freezeIn (nx + 15) 2 (cs := [.d (.int .i64 e.proc), .d (.int .i64 e.kind), .ms nr 5 0 ys.length]) (xs := ys) (e.calls.map encCall) (by (simp (maxSteps := 2000000) (disch := omega) [go_sem, -List.map_map])) (by rfl) (by (simp (maxSteps := 2000000) (disch := omega) [go_sem, -List.map_map])) (by rw [List.drop_zero, List.take_length, hys, List.map_map]; rfl) (by simp [hys]) (Upd.done ?_))
      ((repeat refine WpM.seq ?_); have z_ex := True.intro; refine WpM.regPE [] [(0, _), (3, _), (4, _)] (by (refine s_o [(3, _)] rfl rfl rfl z_su rfl q_move z_fp z_ss ?_; refine s_o [(5, _)] rfl rfl rfl z_su rfl q_load z_fp z_ss ?_; refine s_o [(55, _)] rfl rfl rfl z_su rfl q_full z_fp z_ss ?_; refine s_o [(54, _), (56, _)] rfl rfl rfl z_su rfl q_full z_fp z_ss ?_; refine s_o [(57, _)] rfl rfl rfl z_su rfl q_move z_fp z_ss ?_; exact wpS_nil ⟨rfl, rfl⟩)) z_su ?_; clear z_ex)
      ((repeat refine WpM.seq ?_); have z_ex := (And.intro @wrap_id True.intro); refine WpM.regPE [] [(0, _), (3, _), (4, _)] (by (refine s_o [(4, _)] rfl rfl rfl z_su rfl q_move z_fp z_ss ?_; refine s_o [(12, _)] rfl rfl rfl z_su rfl q_full z_fp z_ss ?_; refine s_o [(13, _)] rfl rfl rfl z_su rfl q_move z_fp z_ss ?_; exact wpS_nil ⟨rfl, rfl⟩)) z_su ?_; clear z_ex)
      have hxs' : xs ++ [V.d (encEvent e)] = (a.take (j + 1)).map (fun e => V.d (encEvent e)) := by rw [hxs, List.take_succ_eq_append_getElem hlt, ← he]; simp
      exact round_end (x' := j + 1) (le_cut (l' := [(ny + 11, some (.row 3 (xs ++ [V.d (encEvent e)])))]) hH (by (simp (maxSteps := 2000000) (disch := omega) [go_sem, -List.map_map]); omega) (Nat.le_refl _) (by (simp (maxSteps := 2000000) (disch := omega) [go_sem, -List.map_map, encEvent]))) (frLe_frOf (by (simp (maxSteps := 2000000) (disch := omega) [go_sem, -List.map_map, wrap_id]))) ⟨by omega, ny + 16, ny + 11, _, by omega, by omega, hxs', rfl, by (simp (maxSteps := 2000000) (disch := omega) [go_sem, -List.map_map])⟩ (by omega)
  · ((repeat refine WpM.seq ?_); refine WpM.condF (by (simp (maxSteps := 2000000) (disch := omega) [go_sem, -List.map_map, hlt])) ?_)
    (refine WpM.exit ?_; (repeat (with_reducible (first | refine thenM_exit ?_ | refine blockM_eq ?_ | refine blockM_ne (by decide) ?_))))
    obtain rfl : j = a.length := by omega
    rw [List.take_length] at hxs
    ((repeat refine WpM.seq ?_); have z_ex := True.intro; refine WpM.regPE [] [(2, _)] (by (refine s_o [(3, _)] rfl rfl rfl z_su rfl q_move z_fp z_ss ?_; refine s_o [(58, _)] rfl rfl rfl z_su rfl q_move z_fp z_ss ?_; exact wpS_nil ⟨rfl, rfl⟩)) z_su ?_; clear z_ex)
    refine WpM.ret ?_
    refine ⟨.inr rfl, Upd.freeze 2 (nm := nm) (sz := 3) (o := 0) (m := xs.length) (xs := xs) (a.map encEvent) (by (simp (maxSteps := 2000000) (disch := omega) [go_sem, -List.map_map])) (by (simp (maxSteps := 2000000) (disch := omega) [go_sem, -List.map_map])) (by rw [List.drop_zero, List.take_length, hxs, List.map_map]; rfl) (by simpa using hxl.symm) (Upd.done ?_)⟩
    (simp (maxSteps := 2000000) (disch := omega) [go_sem, -List.map_map, resV, resVs, resV1])
    exact h1
end Go.Proofs.Ytjjmedgibcffhaa
/- Events that come in as pure data, and pure data as the older kinds of data. -/
namespace Go.Proofs.Ytjjmedgibcffhaa
open Go.RowKit Go.MapKept M
set_option linter.unusedSimpArgs false
set_option linter.unusedVariables false

def CallOk (c : CallD) : Prop := IntOk .i64 c.kind ∧ c.key.size ≤ 140737488351232 ∧ IntOk .i64 c.arg ∧ SlOk (IntOk .i64) 8 c.vals
def EventOk (e : EventD) : Prop := IntOk .i64 e.proc ∧ IntOk .i64 e.kind ∧ SlOk CallOk 64 e.calls
set_option maxRecDepth 100000 in
theorem opensD_call : OpensD encCall CallOk Try.prog 67 := by
  intro H enc w base spare held fuel cs x h hz
  obtain ⟨hl, hf⟩ := M.opens_field Try.underlying67 h hz
  have hl5 : cs.length = 5 := hl.trans (by kernel_rfl)
  obtain ⟨c0, c1, c2, c3, c4, rfl⟩ := list5 hl5
  obtain ⟨m0, y0, h0, z0⟩ := hf 0 3 0 1 rfl (by kernel_rfl)
  obtain ⟨m1, y1, h1, z1⟩ := hf 1 9 1 1 rfl (by kernel_rfl)
  obtain ⟨m2, y2, h2, z2⟩ := hf 2 2 2 1 rfl (by kernel_rfl)
  obtain ⟨m3, y3, h3, z3⟩ := hf 3 4 3 1 rfl (by kernel_rfl)
  obtain ⟨m4, y4, h4, z4⟩ := hf 4 44 4 1 rfl (by kernel_rfl)
  obtain ⟨a0, k0, v0⟩ := opensD_int Try.underlying3 h0 z0
  obtain ⟨a1, k1, v1⟩ := opensD_str Try.underlying9 h1 z1
  obtain ⟨a2, k2, v2⟩ := opensD_int Try.underlying2 h2 z2
  obtain ⟨a3, k3, v3⟩ := opensD_bool Try.underlying4 h3 z3
  obtain ⟨a4, k4, v4⟩ := opensD_sl (sz := 1) (by_ := 8) Try.underlying44 (opensD_int Try.underlying2) (by kernel_rfl) (by kernel_rfl) (by decide) (fun _ => rfl) h4 z4
  exact ⟨⟨a0, a1, a2, a3, a4⟩, cells_agg (.cons (CellsOf.val k0 rfl) (.cons (CellsOf.val k1 rfl) (.cons (CellsOf.val k2 rfl) (.cons (CellsOf.val k3 rfl) (.cons (CellsOf.val k4 rfl) .nil))))), v0, v1, v2, v4⟩
set_option maxRecDepth 100000 in
theorem opensD_event : OpensD encEvent EventOk Try.prog 24 := by
  intro H enc w base spare held fuel cs x h hz
  obtain ⟨hl, hf⟩ := M.opens_field Try.underlying24 h hz
  have hl3 : cs.length = 3 := hl.trans (by kernel_rfl)
  obtain ⟨c0, c1, c2, rfl⟩ := list3 hl3
  obtain ⟨m0, y0, h0, z0⟩ := hf 0 2 0 1 rfl (by kernel_rfl)
  obtain ⟨m1, y1, h1, z1⟩ := hf 1 3 1 1 rfl (by kernel_rfl)
  obtain ⟨m2, y2, h2, z2⟩ := hf 2 22 2 1 rfl (by kernel_rfl)
  obtain ⟨a0, k0, v0⟩ := opensD_int Try.underlying2 h0 z0
  obtain ⟨a1, k1, v1⟩ := opensD_int Try.underlying3 h1 z1
  obtain ⟨a2, k2, v2⟩ := opensD_sl (sz := 5) (by_ := 64) Try.underlying22 opensD_call (by kernel_rfl) (by kernel_rfl) (by decide) (fun _ => rfl) h2 z2
  exact ⟨⟨a0, a1, a2⟩, cells_agg (.cons (CellsOf.val k0 rfl) (.cons (CellsOf.val k1 rfl) (.cons (CellsOf.val k2 rfl) .nil))), v0, v1, v2⟩
set_option maxRecDepth 100000 in
theorem opensD_events : OpensD (fun l : List EventD => D.sl (l.map encEvent)) (SlOk EventOk 40) Try.prog 27 := by
  intro H enc w base spare held fuel cs x h hz
  exact opensD_sl (sz := 3) (by_ := 40) Try.underlying27 opensD_event (by kernel_rfl) (by kernel_rfl) (by decide) (fun _ => rfl) h hz

/-- Pure data as the older kinds of data. -/
def Conv {α : Type} (t : Ty α) (en : α → D) (B : α → Prop) : Prop := ∀ {F : Nat → Prop} {w : World} {x : α} {cs : List Value}, CellsOf F w (en x) cs → B x → t.K F w cs x
theorem conv_sl {α : Type} {t : Ty α} {en : α → D} {B : α → Prop} (hc : Conv t en B) (hen : ∀ a, (en a).cells.length = t.sz) {F : Nat → Prop} {w : World} {xs : List α} {v : Value}
    (h : RD F w (.sl (xs.map en)) v) (hb : SlOk B t.bytes xs) : ∃ A c, v = .slice A xs.length c ∧ t.Sl F w A xs ∧ xs.length ≤ c := by
  generalize hl : xs.map en = l at h
  cases h with
  | slNil a c =>
    have : xs = [] := by simpa using hl
    subst this
    exact ⟨a, c, rfl, Ty.Sl.nil _ _ _ _, Nat.zero_le _⟩
  | sl _ b o c sz u hF hcap h1 h2 h3 =>
    subst hl
    have hlen : (xs.map en).length = xs.length := by simp
    refine ⟨some ⟨b, o, none⟩, c, by rw [hlen], ⟨hb.1, .inr ⟨b, o, rfl, hF, fun i x hi => ?_⟩⟩, by omega⟩
    have hget : (xs.map en)[i]? = some (en x) := by simp [hi]
    have hsz : sz = t.sz := by rw [← h1 i _ hget]; exact hen x
    subst hsz
    refine ⟨(List.range t.sz).map (u i), hc ⟨by simp [hen], fun j y hy => ?_⟩ (hb.2 x (List.mem_of_getElem? hi)), fun j v hv => ?_⟩
    · have hj : j < t.sz := by rw [← hen x]; exact (List.getElem?_eq_some_iff.1 hy).1
      have e : ((List.range t.sz).map (u i)).getD j undef = u i j := by simp [List.getD, hj]
      rw [e]
      exact h3 i j _ y hget hy
    · have hj : j < t.sz := by have := (List.getElem?_eq_some_iff.1 hv).1; simpa using this
      have e : u i j = v := by simpa [hj] using hv
      subst e
      have hj' : j < (en x).cells.length := by rw [hen]; exact hj
      exact h2 i j _ (en x).cells[j] hget (by simp [hj'])
theorem conv_int {k : IntKind} : Conv (Ty.int k) (D.int k) (IntOk k) := by
  intro F w x cs h _
  obtain ⟨c, rfl, h'⟩ := h.one rfl
  cases h'
  rfl
theorem conv_call : Conv Ty.call encCall CallOk := by
  intro F w x cs h hB
  obtain ⟨h1, h2⟩ := h
  obtain ⟨c0, c1, c2, c3, c4, rfl⟩ := list5 h1
  have r0 := h2 0 _ rfl
  have r1 := h2 1 _ rfl
  have r2 := h2 2 _ rfl
  have r3 := h2 3 _ rfl
  have r4 := h2 4 _ rfl
  simp only [List.getD_cons_zero, List.getD_cons_succ] at r0 r1 r2 r3 r4
  obtain ⟨A, c, rfl, hs, _⟩ := conv_sl (t := Ty.int .i64) conv_int (fun _ => rfl) r4 hB.2.2.2
  cases r0
  cases r1
  cases r2
  cases r3
  exact ⟨A, c, rfl, hs⟩
theorem conv_event : Conv Ty.event encEvent EventOk := by
  intro F w x cs h hB
  obtain ⟨h1, h2⟩ := h
  obtain ⟨c0, c1, c2, rfl⟩ := list3 h1
  have r0 := h2 0 _ rfl
  have r1 := h2 1 _ rfl
  have r2 := h2 2 _ rfl
  simp only [List.getD_cons_zero, List.getD_cons_succ] at r0 r1 r2
  obtain ⟨A, c, rfl, hs, _⟩ := conv_sl (t := Ty.call) conv_call (fun _ => rfl) r2 hB.2.2
  cases r0
  cases r1
  exact ⟨A, c, rfl, hs⟩
theorem conv_events {F : Nat → Prop} {w : World} {xs : List EventD} {v : Value} (h : RD F w (.sl (xs.map encEvent)) v) (hb : SlOk EventOk 40 xs) : ∃ A c, v = .slice A xs.length c ∧ Ty.event.Sl F w A xs ∧ xs.length ≤ c :=
  conv_sl (t := Ty.event) conv_event (fun _ => rfl) h hb
end Go.Proofs.Ytjjmedgibcffhaa
/- The older contracts as contracts of pure functions. -/
namespace Go.Proofs.Ytjjmedgibcffhaa
open Go.RowKit M
set_option linter.unusedSimpArgs false
set_option linter.unusedVariables false
def evs (xs : List EventD) : D := .sl (xs.map encEvent)
def encPair (p : PairD) : D := .agg [.int .i64 p.from_, .int .i64 p.to_, .int .i64 p.status]
/-- The ghost state of a call whose new blocks hold pure data. -/
def gNew (g : Gh) (w w' : World) : Gh := { g with F := fun b => g.F b ∨ (w.heap.size ≤ b ∧ b < w'.heap.size) }
theorem callM_new {S : St} {g : Gh} {w w' : World} {r : V} {v : Value} (h1 : RS g w S.get) (h2 : ∀ k, g.U k → k < S.next) (hb : Below w.heap.size w w') (hr : RV (gNew g w w') w' r v) :
    ∃ r' v' S' g', Ending.returned v = .returned v' ∧ Ext g w g' w' ∧ RS g' w' S'.get ∧ (∀ k, g'.U k → k < S'.next) ∧ RV g' w' r' v' ∧ (r' = r ∧ S' = S) := by
  have hE : Ext g w (gNew g w w') w' := ⟨fun _ h => h, fun _ _ => rfl, fun _ h => .inl h, fun b hF => hb.block b (h1.ltF b hF), hb.os, hb.tape, hb.output, hb.size⟩
  refine ⟨r, v, S, gNew g w w', rfl, hE, h1.ext hE (fun n b hn hbk => hb.block b (h1.notF n b hn hbk).2) (fun b hF => ?_), h2, hr, rfl, rfl⟩
  rcases hF with hF | ⟨hl, hr⟩
  · exact ⟨Nat.lt_of_lt_of_le (h1.ltF b hF) hb.size, fun n hn e => (h1.notF n b hn e).1 hF⟩
  · exact ⟨hr, fun n hn e => by have := (h1.notF n b hn e).2; omega⟩
theorem one_arg {vals : Array Value} {g : Gh} {w : World} {x : D} (h1 : vals.size = 1) (h2 : ∀ (j : Nat) (y : V), [V.d x][j]? = some y → RV g w y (vals.getD j undef)) : ∃ v, vals = #[v] ∧ RD g.F w x v := by
  obtain ⟨l⟩ := vals
  match l, h1 with
  | [v], _ =>
    have := h2 0 _ rfl
    simp at this
    cases this with | d this => exact ⟨v, rfl, this⟩
theorem two_args {vals : Array Value} {g : Gh} {w : World} {x y : D} (h1 : vals.size = 2) (h2 : ∀ (j : Nat) (z : V), [V.d x, V.d y][j]? = some z → RV g w z (vals.getD j undef)) : ∃ v u, vals = #[v, u] ∧ RD g.F w x v ∧ RD g.F w y u := by
  obtain ⟨l⟩ := vals
  match l, h1 with
  | [v, u], _ =>
    have a := h2 0 _ rfl
    have b := h2 1 _ rfl
    simp at a b
    cases a with | d a => cases b with | d b => exact ⟨v, u, rfl, a, b⟩
theorem pureC_events {f : FuncId} {xs : List EventD} {r : V} (hok : SlOk EventOk 40 xs)
    (h : ∀ (F : Nat → Prop) (w : World) (A : Option Addr) (c : Nat), Ty.event.Sl F w A xs → (∀ b, F b → b < w.heap.size) → Calls Try.prog f #[.slice A xs.length c] w fun e w' => ∃ v, e = .returned v ∧ Below w.heap.size w w' ∧ ∀ g : Gh, RV (gNew g w w') w' r v) :
    PureC Try.prog f [.d (evs xs)] r := by
  intro S g w vals h1 h2 h3 h4
  obtain ⟨v, rfl, hv⟩ := one_arg h3 h4
  obtain ⟨A, c, rfl, hs, _⟩ := conv_events hv hok
  refine (h g.F w A c hs h1.ltF).mono ?_
  rintro e w' ⟨v, rfl, hb, hr⟩
  exact callM_new h1 h2 hb (hr g)
theorem check44 (xs : List EventD) (hok : SlOk EventOk 40 xs) : PureC Try.prog 44 [.d (evs xs)] (.d (.int .i64 (errnoOf (listOk xs)))) :=
  pureC_events hok fun F w A c hs hF => (check_calls xs F w A c hs hF).mono fun e w' ⟨he, hb⟩ => ⟨_, he, hb, fun g => .d (.int _ _)⟩
theorem check45 (xs : List EventD) (hok : SlOk EventOk 40 xs) : PureC Try.prog 45 [.d (evs xs)] (.d (.int .i64 (errnoOf (listOk xs)))) :=
  pureC_events hok fun F w A c hs hF => (refcheck_calls xs F w A c hs hF).mono fun e w' ⟨he, hb⟩ => ⟨_, he, hb, fun g => .d (.int _ _)⟩
/-- What Pairs answers. -/
noncomputable def pairsV (xs : List EventD) : V := .tup [.d (.sl ((psOf (pairsF xs)).map encPair)), .d (.agg [.int .i64 (flOf (pairsF xs)).1, .int .i64 (flOf (pairsF xs)).2])]
theorem tupRV {g : Gh} {w : World} {x y : V} {a b : Value} (hx : RV g w x a) (hy : RV g w y b) : RV g w (.tup [x, y]) (.tuple #[a, b]) := tupRV2 hx hy
theorem aggRD2 {F : Nat → Prop} {w : World} {a b : Int} : RD F w (.agg [.int .i64 a, .int .i64 b]) (.agg #[.int .i64 a, .int .i64 b]) := by
  refine .agg _ _ rfl fun j z hz => ?_
  match j, hz with
  | 0, hz => simp at hz; subst hz; exact .int _ _
  | 1, hz => simp at hz; subst hz; exact .int _ _
  | j + 2, hz => simp at hz
theorem pairs_rv {xs : List EventD} {w w' : World} {e : Ending} (h : PairsPost w (pairsF xs) e w') : ∃ v, e = .returned v ∧ Below w.heap.size w w' ∧ ∀ g : Gh, RV (gNew g w w') w' (pairsV xs) v := by
  obtain ⟨hb, h⟩ := h
  have hlen := psOf_len xs
  unfold pairsV
  revert h hlen
  cases pairsF xs with
  | error ea =>
    intro h _
    exact ⟨_, h, hb, fun g => tupRV (.d (.slNil _ _)) (.d aggRD2)⟩
  | ok ps =>
    rintro ⟨v, rfl, hown⟩ hlen
    have hlen : ps.length ≤ 256 := hlen
    obtain ⟨A', c', rfl, hc, hs⟩ := own_sl (t := Ty.pair) (enc := encP) encP_len (by decide) (fun _ _ _ => rfl) (F := Fresh w w') hown (fun b h1 h2 => ⟨h1, h2⟩) (show ps.length * 24 ≤ _ by omega)
    refine ⟨_, rfl, hb, fun g => tupRV (.d ?_) (.d aggRD2)⟩
    rcases hs.2 with h0 | ⟨b, o, rfl, hFb, hx⟩
    · have : ps = [] := h0
      subst this
      exact .slNil _ _
    · have key : ∀ (i : Nat) (p : PairD), ps[i]? = some p → ∀ j v, (encP p)[j]? = some v → w'.cell? ⟨b, o + i * 3 + j, none⟩ = some v := fun i p hp j v hv => by
        obtain ⟨cs, hK, hcell⟩ := hx i p hp
        have : cs = encP p := hK
        subst this
        exact hcell j v hv
      have hget : ∀ (i : Nat) (x : D), (ps.map encPair)[i]? = some x → ∃ p, ps[i]? = some p ∧ x = encPair p := fun i x hx => by
        simp only [List.getElem?_map, Option.map_eq_some_iff] at hx
        obtain ⟨p, hp, rfl⟩ := hx
        exact ⟨p, hp, rfl⟩
      have hl : (psOf (.ok ps : Except (Int × Int) (List PairD))).length = (ps.map encPair).length := by simp [psOf]
      show RD _ w' (.sl (ps.map encPair)) (.slice (some ⟨b, o, none⟩) ps.length c')
      have := RD.sl (F := (gNew g w w').F) (w := w') (ps.map encPair) b o c' 3 (fun i j => match ps[i]? with | some p => (encP p).getD j undef | none => undef) (.inr hFb) (by simpa using hc)
        (fun i x hx => by obtain ⟨p, _, rfl⟩ := hget i x hx; rfl)
        (fun i j x y hx hy => by
          obtain ⟨p, hp, rfl⟩ := hget i x hx
          simp only [hp]
          have hj : j < 3 := (List.getElem?_eq_some_iff.1 hy).1
          refine key i p hp j _ ?_
          match j, hj with
          | 0, _ => rfl
          | 1, _ => rfl
          | 2, _ => rfl)
        (fun i j x y hx hy => by
          obtain ⟨p, hp, rfl⟩ := hget i x hx
          simp only [hp]
          match j, hy with
          | 0, hy => simp [encPair, D.cells] at hy; subst hy; exact .int _ _
          | 1, hy => simp [encPair, D.cells] at hy; subst hy; exact .int _ _
          | 2, hy => simp [encPair, D.cells] at hy; subst hy; exact .int _ _
          | j + 3, hy => simp [encPair, D.cells] at hy)
      simpa using this
theorem pairs19 (xs : List EventD) (hok : SlOk EventOk 40 xs) : PureC Try.prog 19 [.d (evs xs)] (pairsV xs) :=
  pureC_events hok fun F w A c hs hF => (pairs_calls xs F w A c hs hF).mono fun e w' h => pairs_rv h
theorem pairs21 (xs : List EventD) (hok : SlOk EventOk 40 xs) : PureC Try.prog 21 [.d (evs xs)] (pairsV xs) :=
  pureC_events hok fun F w A c hs hF => (refpairs_calls xs F w A c hs hF).mono fun e w' h => pairs_rv h
end Go.Proofs.Ytjjmedgibcffhaa
/- index.calls and what stands behind index.placed. -/
namespace Go.Proofs.Ytjjmedgibcffhaa
open Go.RowKit M
set_option linter.unusedSimpArgs false
set_option linter.unusedVariables false
/-- What is known of a history that comes in. -/
def OpOk (o : OpD) : Prop := IntOk .i64 o.kind ∧ IntOk .i64 o.key ∧ IntOk .i64 o.arg ∧ SlOk (IntOk .i64) 8 o.vals
def TxnOk (t : TxnD) : Prop := IntOk .i64 t.proc ∧ IntOk .i64 t.status ∧ IntOk .i64 t.frm ∧ IntOk .i64 t.to ∧ SlOk OpOk 56 t.ops
def HistOk (h : HistD) : Prop := SlOk (fun s => s.size ≤ 140737488351232) 16 h.keys ∧ SlOk TxnOk 56 h.txns
theorem TxnOk.b {t : TxnD} (h : TxnOk t) : TxnB t := ⟨h.2.2.2.2.1, fun o ho => ⟨(h.2.2.2.2.2 o ho).2.2.2.1⟩⟩
theorem HistOk.b {h : HistD} (hh : HistOk h) : HistB h := ⟨hh.1.1, hh.2.1, fun t ht => (hh.2.2 t ht).b⟩
def okKey (n : Nat) (o : OpD) : Bool := decide (0 ≤ o.key ∧ o.key < n)
def callOf' (keys : List ByteArray) (o : OpD) : CallD := ⟨o.kind, keys.getD o.key.toNat ByteArray.empty, o.arg, o.got, o.vals⟩
/-- The operations of a transaction as an event, up to the first without a key. -/
def evOf (keys : List ByteArray) (t : TxnD) : EventD := ⟨0, t.status, (t.ops.takeWhile (okKey keys.length)).map (callOf' keys)⟩
def evOkB (keys : List ByteArray) (t : TxnD) : Bool := t.ops.all (okKey keys.length) && eventOk (evOf keys t)
theorem takeWhile_bad {α : Type} (p : α → Bool) : ∀ (l : List α) (j : Nat) (h : j < l.length), (∀ i (h : i < l.length), i < j → p l[i] = true) → p l[j] = false → l.takeWhile p = l.take j ∧ l.all p = false
  | a :: l, 0, _, _, hb => by
    simp only [List.getElem_cons_zero] at hb
    simp [List.takeWhile, hb]
  | a :: l, j + 1, h, hg, hb => by
    have h0 := hg 0 (by simp) (by omega)
    simp only [List.getElem_cons_zero] at h0
    simp only [List.getElem_cons_succ] at hb
    obtain ⟨h1, h2⟩ := takeWhile_bad p l j (by simpa using h) (fun i hi hij => by have := hg (i + 1) (by simpa using hi) (by omega); simpa using this) hb
    simp [List.takeWhile, h0, h1, h2]
theorem takeWhile_good {α : Type} (p : α → Bool) (l : List α) (h : ∀ i (h : i < l.length), p l[i] = true) : l.takeWhile p = l ∧ l.all p = true := by
  have ha : ∀ a ∈ l, p a = true := fun a ha => by obtain ⟨i, hi, rfl⟩ := List.getElem_of_mem ha; exact h i hi
  refine ⟨?_, List.all_eq_true.2 ha⟩
  clear h
  induction l with
  | nil => rfl
  | cons a l ih => simp [List.takeWhile, ha a (by simp), ih fun b hb => ha b (by simp [hb])]
theorem IntOk.le {n : Int} (h : IntOk .i64 n) : -9223372036854775808 ≤ n ∧ n ≤ 9223372036854775807 := by
  have h' : (decide (-9223372036854775808 ≤ n) && decide (n ≤ 9223372036854775807)) = true := h
  simpa using h'
theorem listOk_one (e : EventD) : errnoOf (listOk [e]) = if eventOk e then 0 else 1 := by
  simp [errnoOf, listOk]
/-- wire.Check of an event with too many calls. -/
theorem check44L (e : EventD) (hl : 16 < e.calls.length) : PureC Try.prog 44 [.d (evs [e])] (.d (.int .i64 1)) := by
  refine PureC.of (n := 33) Try.func44 rfl rfl (by simp) (by simp only [argL, Nat.reduceAdd] <;> rfl) rfl ?_
  intro n0 H hH
  ((repeat refine WpM.seq ?_); have z_ex := True.intro; refine WpM.regPE [] [(0, _)] (by (refine s_o [] rfl rfl rfl z_su rfl q_move z_fp z_ss ?_; exact wpS_nil ⟨rfl, rfl⟩)) z_su ?_; clear z_ex)
  ((repeat refine WpM.seq ?_); have z_ex := (And.intro @evs.eq_1 True.intro); refine WpM.regPE [] [(0, _), (7, _)] (by (refine s_o [(0, _)] rfl rfl rfl z_su rfl q_move z_fp z_ss ?_; refine s_o [(5, _)] rfl rfl rfl z_su rfl q_full z_fp z_ss ?_; refine s_o [(6, _)] rfl rfl rfl z_su rfl q_full z_fp z_ss ?_; exact wpS_nil ⟨rfl, rfl⟩)) z_su ?_; clear z_ex)
  ((repeat refine WpM.seq ?_); refine WpM.condF (by (simp (maxSteps := 2000000) (disch := omega) [go_sem, -List.map_map])) ?_)
  refine WpM.skip ?_
  ((repeat refine WpM.seq ?_); have z_ex := (And.intro @evs.eq_1 True.intro); refine WpM.regPE [] [(8, _), (9, _), (10, _)] (by (refine s_o [(0, _)] rfl rfl rfl z_su rfl q_move z_fp z_ss ?_; refine s_o [(8, _)] rfl rfl rfl z_su rfl q_full z_fp z_ss ?_; refine s_o [] rfl rfl rfl z_su rfl q_move z_fp z_ss ?_; exact wpS_nil ⟨rfl, rfl⟩)) z_su ?_; clear z_ex)
  ((repeat refine WpM.seq ?_); refine WpM.block ?_)
  refine WpM.loop (fun (j : Nat) fr S => fr = frOf [(8, .d (evs [e])), (9, .d (.int .i64 1)), (10, .d (.int .i64 0))] ∧ ∃ nx, n0 ≤ nx ∧ S = ⟨nx, [], H⟩) (fun j => 0) 0 (St.Le.refl _) (frLe_frOf (by (simp (maxSteps := 2000000) (disch := omega) [go_sem, -List.map_map, evs]))) ⟨rfl, _, ?_, rfl⟩ ?_
  · omega
  rintro j fr S' ⟨rfl, nx, hnx, rfl⟩
  ((repeat refine WpM.seq ?_); have z_ex := True.intro; refine WpM.regPE [] [(8, _), (9, _), (10, _), (11, _)] (by (refine s_o [(9, _), (10, _)] rfl rfl rfl z_su rfl q_full z_fp z_ss ?_; exact wpS_nil ⟨rfl, rfl⟩)) z_su ?_; clear z_ex)
  ((repeat refine WpM.seq ?_); refine WpM.condT (by (simp (maxSteps := 2000000) (disch := omega) [go_sem, -List.map_map])) ?_)
  refine WpM.skip ?_
  ((repeat refine WpM.seq ?_); refine WpM.block ?_)
  ((repeat refine WpM.seq ?_); have z_ex := (And.intro @evs.eq_1 (And.intro @encEvent.eq_1 True.intro)); refine WpM.regPE [] [(4, _), (8, _), (9, _), (10, _)] (by (refine s_o [(8, _), (10, _)] rfl rfl rfl z_su rfl q_full z_fp z_ss ?_; refine s_o [(12, _)] rfl rfl rfl z_su rfl q_load z_fp z_ss ?_; refine s_o [] rfl rfl rfl z_su rfl q_alloc z_fp z_ss ?_; refine s_o [(4, _), (13, _)] rfl rfl rfl z_su rfl q_store z_fp z_ss ?_; exact wpS_nil ⟨rfl, rfl⟩)) z_su ?_; clear z_ex)
  by_cases h1 : e.kind < 0
  · ((repeat refine WpM.seq ?_); have z_ex := (And.intro @h1 True.intro); refine WpM.regPE [] [(4, _), (8, _), (9, _), (10, _), (27, _)] (by (refine s_o [(4, _)] rfl rfl rfl z_su rfl q_fieldAddr z_fp z_ss ?_; refine s_o [(14, _)] rfl rfl rfl z_su rfl q_load z_fp z_ss ?_; refine s_o [(15, _)] rfl rfl rfl z_su rfl q_full z_fp z_ss ?_; refine s_o [(16, _)] rfl rfl rfl z_su rfl q_move z_fp z_ss ?_; refine s_wit ?_; intro z_g; (first | refine s_skip rfl z_g z_fp ?_ | (refine s_o [(4, _)] rfl z_g rfl z_su rfl q_fieldAddr z_fp z_ss ?_)); clear z_g; refine s_wit ?_; intro z_g; (first | refine s_skip rfl z_g z_fp ?_ | (refine s_o [(18, _)] rfl z_g rfl z_su rfl q_load z_fp z_ss ?_)); clear z_g; refine s_wit ?_; intro z_g; (first | refine s_skip rfl z_g z_fp ?_ | (refine s_o [(19, _)] rfl z_g rfl z_su rfl q_full z_fp z_ss ?_)); clear z_g; refine s_o [(17, _), (20, _)] rfl rfl rfl z_su rfl q_move z_fp z_ss ?_; refine s_o [(21, _)] rfl rfl rfl z_su rfl q_move z_fp z_ss ?_; refine s_wit ?_; intro z_g; (first | refine s_skip rfl z_g z_fp ?_ | (refine s_o [(4, _)] rfl z_g rfl z_su rfl q_fieldAddr z_fp z_ss ?_)); clear z_g; refine s_wit ?_; intro z_g; (first | refine s_skip rfl z_g z_fp ?_ | (refine s_o [(23, _)] rfl z_g rfl z_su rfl q_load z_fp z_ss ?_)); clear z_g; refine s_wit ?_; intro z_g; (first | refine s_skip rfl z_g z_fp ?_ | (refine s_o [(24, _)] rfl z_g rfl z_su rfl q_full z_fp z_ss ?_)); clear z_g; refine s_wit ?_; intro z_g; (first | refine s_skip rfl z_g z_fp ?_ | (refine s_o [(25, _)] rfl z_g rfl z_su rfl q_full z_fp z_ss ?_)); clear z_g; refine s_o [(22, _), (26, _)] rfl rfl rfl z_su rfl q_move z_fp z_ss ?_; exact wpS_nil ⟨rfl, rfl⟩)) z_su ?_; clear z_ex)
    ((repeat refine WpM.seq ?_); refine WpM.condT (by (simp (maxSteps := 2000000) (disch := omega) [go_sem, -List.map_map, h1])) ?_)
    ((repeat refine WpM.seq ?_); have z_ex := True.intro; refine WpM.regPE [] [(2, _)] (by (refine s_o [] rfl rfl rfl z_su rfl q_move z_fp z_ss ?_; exact wpS_nil ⟨rfl, rfl⟩)) z_su ?_; clear z_ex)
    (refine WpM.ret ?_; refine ⟨.inr rfl, Upd.done ?_⟩; (simp (maxSteps := 2000000) (disch := omega) [go_sem, -List.map_map, resV, resVs, resV1,]))
    omega
  · by_cases h2 : 3 < e.kind
    · ((repeat refine WpM.seq ?_); have z_ex := (And.intro @h1 (And.intro @h2 True.intro)); refine WpM.regPE [] [(4, _), (8, _), (9, _), (10, _), (27, _)] (by (refine s_o [(4, _)] rfl rfl rfl z_su rfl q_fieldAddr z_fp z_ss ?_; refine s_o [(14, _)] rfl rfl rfl z_su rfl q_load z_fp z_ss ?_; refine s_o [(15, _)] rfl rfl rfl z_su rfl q_full z_fp z_ss ?_; refine s_o [(16, _)] rfl rfl rfl z_su rfl q_move z_fp z_ss ?_; refine s_wit ?_; intro z_g; (first | refine s_skip rfl z_g z_fp ?_ | (refine s_o [(4, _)] rfl z_g rfl z_su rfl q_fieldAddr z_fp z_ss ?_)); clear z_g; refine s_wit ?_; intro z_g; (first | refine s_skip rfl z_g z_fp ?_ | (refine s_o [(18, _)] rfl z_g rfl z_su rfl q_load z_fp z_ss ?_)); clear z_g; refine s_wit ?_; intro z_g; (first | refine s_skip rfl z_g z_fp ?_ | (refine s_o [(19, _)] rfl z_g rfl z_su rfl q_full z_fp z_ss ?_)); clear z_g; refine s_o [(17, _), (20, _)] rfl rfl rfl z_su rfl q_move z_fp z_ss ?_; refine s_o [(21, _)] rfl rfl rfl z_su rfl q_move z_fp z_ss ?_; refine s_wit ?_; intro z_g; (first | refine s_skip rfl z_g z_fp ?_ | (refine s_o [(4, _)] rfl z_g rfl z_su rfl q_fieldAddr z_fp z_ss ?_)); clear z_g; refine s_wit ?_; intro z_g; (first | refine s_skip rfl z_g z_fp ?_ | (refine s_o [(23, _)] rfl z_g rfl z_su rfl q_load z_fp z_ss ?_)); clear z_g; refine s_wit ?_; intro z_g; (first | refine s_skip rfl z_g z_fp ?_ | (refine s_o [(24, _)] rfl z_g rfl z_su rfl q_full z_fp z_ss ?_)); clear z_g; refine s_wit ?_; intro z_g; (first | refine s_skip rfl z_g z_fp ?_ | (refine s_o [(25, _)] rfl z_g rfl z_su rfl q_full z_fp z_ss ?_)); clear z_g; refine s_o [(22, _), (26, _)] rfl rfl rfl z_su rfl q_move z_fp z_ss ?_; exact wpS_nil ⟨rfl, rfl⟩)) z_su ?_; clear z_ex)
      ((repeat refine WpM.seq ?_); refine WpM.condT (by (simp (maxSteps := 2000000) (disch := omega) [go_sem, -List.map_map, h1, h2])) ?_)
      ((repeat refine WpM.seq ?_); have z_ex := True.intro; refine WpM.regPE [] [(2, _)] (by (refine s_o [] rfl rfl rfl z_su rfl q_move z_fp z_ss ?_; exact wpS_nil ⟨rfl, rfl⟩)) z_su ?_; clear z_ex)
      (refine WpM.ret ?_; refine ⟨.inr rfl, Upd.done ?_⟩; (simp (maxSteps := 2000000) (disch := omega) [go_sem, -List.map_map, resV, resVs, resV1,]))
      omega
    · have hl' : (16 : Int) < e.calls.length := by omega
      ((repeat refine WpM.seq ?_); have z_ex := (And.intro @h1 (And.intro @h2 (And.intro @hl' True.intro))); refine WpM.regPE [] [(4, _), (8, _), (9, _), (10, _), (27, _)] (by (refine s_o [(4, _)] rfl rfl rfl z_su rfl q_fieldAddr z_fp z_ss ?_; refine s_o [(14, _)] rfl rfl rfl z_su rfl q_load z_fp z_ss ?_; refine s_o [(15, _)] rfl rfl rfl z_su rfl q_full z_fp z_ss ?_; refine s_o [(16, _)] rfl rfl rfl z_su rfl q_move z_fp z_ss ?_; refine s_wit ?_; intro z_g; (first | refine s_skip rfl z_g z_fp ?_ | (refine s_o [(4, _)] rfl z_g rfl z_su rfl q_fieldAddr z_fp z_ss ?_)); clear z_g; refine s_wit ?_; intro z_g; (first | refine s_skip rfl z_g z_fp ?_ | (refine s_o [(18, _)] rfl z_g rfl z_su rfl q_load z_fp z_ss ?_)); clear z_g; refine s_wit ?_; intro z_g; (first | refine s_skip rfl z_g z_fp ?_ | (refine s_o [(19, _)] rfl z_g rfl z_su rfl q_full z_fp z_ss ?_)); clear z_g; refine s_o [(17, _), (20, _)] rfl rfl rfl z_su rfl q_move z_fp z_ss ?_; refine s_o [(21, _)] rfl rfl rfl z_su rfl q_move z_fp z_ss ?_; refine s_wit ?_; intro z_g; (first | refine s_skip rfl z_g z_fp ?_ | (refine s_o [(4, _)] rfl z_g rfl z_su rfl q_fieldAddr z_fp z_ss ?_)); clear z_g; refine s_wit ?_; intro z_g; (first | refine s_skip rfl z_g z_fp ?_ | (refine s_o [(23, _)] rfl z_g rfl z_su rfl q_load z_fp z_ss ?_)); clear z_g; refine s_wit ?_; intro z_g; (first | refine s_skip rfl z_g z_fp ?_ | (refine s_o [(24, _)] rfl z_g rfl z_su rfl q_full z_fp z_ss ?_)); clear z_g; refine s_wit ?_; intro z_g; (first | refine s_skip rfl z_g z_fp ?_ | (refine s_o [(25, _)] rfl z_g rfl z_su rfl q_full z_fp z_ss ?_)); clear z_g; refine s_o [(22, _), (26, _)] rfl rfl rfl z_su rfl q_move z_fp z_ss ?_; exact wpS_nil ⟨rfl, rfl⟩)) z_su ?_; clear z_ex)
      ((repeat refine WpM.seq ?_); refine WpM.condT (by (simp (maxSteps := 2000000) (disch := omega) [go_sem, -List.map_map, h1, h2, hl'])) ?_)
      ((repeat refine WpM.seq ?_); have z_ex := True.intro; refine WpM.regPE [] [(2, _)] (by (refine s_o [] rfl rfl rfl z_su rfl q_move z_fp z_ss ?_; exact wpS_nil ⟨rfl, rfl⟩)) z_su ?_; clear z_ex)
      (refine WpM.ret ?_; refine ⟨.inr rfl, Upd.done ?_⟩; (simp (maxSteps := 2000000) (disch := omega) [go_sem, -List.map_map, resV, resVs, resV1,]))
      omega
theorem evOf_call {keys : List ByteArray} (hk : SlOk (fun s => s.size ≤ 140737488351232) 16 keys) {o : OpD} (ho : OpOk o) : CallOk (callOf' keys o) := by
  refine ⟨ho.1, ?_, ho.2.2.1, ho.2.2.2⟩
  show (keys.getD o.key.toNat ByteArray.empty).size ≤ _
  by_cases hl : o.key.toNat < keys.length
  · have := hk.2 keys[o.key.toNat] (List.getElem_mem _)
    simpa [hl] using this
  · simp [List.getD_eq_getElem?_getD, List.getElem?_eq_none (by omega : keys.length ≤ o.key.toNat)]
theorem evOf_ok {keys : List ByteArray} (hk : SlOk (fun s => s.size ≤ 140737488351232) 16 keys) {t : TxnD} (ht : TxnOk t) (hl : (evOf keys t).calls.length ≤ 16) : SlOk EventOk 40 [evOf keys t] := by
  refine ⟨by simp, fun e he => ?_⟩
  simp only [List.mem_singleton] at he
  subst he
  refine ⟨(show (Lit.int .i64 0).wf = true by decide), ht.2.1, by omega, fun c hc => ?_⟩
  simp only [evOf, List.mem_map] at hc
  obtain ⟨o, ho, rfl⟩ := hc
  exact evOf_call hk (ht.2.2.2.2.2 o (List.takeWhile_subset _ ho))
theorem check44_one {keys : List ByteArray} (hk : SlOk (fun s => s.size ≤ 140737488351232) 16 keys) {t : TxnD} (ht : TxnOk t) : PureC Try.prog 44 [.d (evs [evOf keys t])] (.d (.int .i64 (if eventOk (evOf keys t) then 0 else 1))) := by
  by_cases hl : (evOf keys t).calls.length ≤ 16
  · have := check44 [evOf keys t] (evOf_ok hk ht hl)
    rw [listOk_one] at this
    exact this
  · have : eventOk (evOf keys t) = false := by simp [eventOk, hl]
    rw [this]
    exact check44L _ (by omega)
set_option maxHeartbeats 8000000 in
theorem calls53 (h : HistD) (hh : HistOk h) (t : TxnD) (ht : TxnOk t) : PureC Try.prog 53 [.d (encHist h), .d (encTxn t)] (.tup [.d (encEvent (evOf h.keys t)), .d (.bool (evOkB h.keys t))]) := by
  refine PureC.of (n := 57) Try.func53 rfl rfl (by simp) (by simp only [argL, Nat.reduceAdd] <;> rfl) rfl ?_
  intro n0 H hH
  have hb1 := hh.1.1
  have hb2 := ht.2.2.2.2.1
  ((repeat refine WpM.seq ?_); have z_ex := True.intro; refine WpM.regPE [] [(2, _), (3, _), (4, _)] (by (refine s_o [(0, _)] rfl rfl rfl z_su rfl q_box z_fp z_ss ?_; refine s_o [(1, _)] rfl rfl rfl z_su rfl q_box z_fp z_ss ?_; refine s_o [] rfl rfl rfl z_su rfl q_alloc z_fp z_ss ?_; refine s_o [] rfl rfl rfl z_su rfl q_move z_fp z_ss ?_; exact wpS_nil ⟨rfl, rfl⟩)) z_su ?_; clear z_ex)
  ((repeat refine WpM.seq ?_); have z_ex := (And.intro @encTxn.eq_1 True.intro); refine WpM.regPE [] [(2, _), (3, _), (4, _), (6, _)] (by (refine s_o [(3, _)] rfl rfl rfl z_su rfl q_fieldAddr z_fp z_ss ?_; refine s_o [(9, _)] rfl rfl rfl z_su rfl q_load z_fp z_ss ?_; refine s_o [(10, _)] rfl rfl rfl z_su rfl q_build z_fp z_ss ?_; refine s_o [] rfl rfl rfl z_su rfl q_alloc z_fp z_ss ?_; refine s_o [(6, _), (11, _)] rfl rfl rfl z_su rfl q_store z_fp z_ss ?_; exact wpS_nil ⟨rfl, rfl⟩)) z_su ?_; clear z_ex)
  refine Upd.wp (Upd.ghostIn (n0 + 7) 2 5 (cs := [.d (.int .i64 0), .d (.int .i64 t.status), .nil]) (by (simp (maxSteps := 2000000) (disch := omega) [go_sem, -List.map_map])) (.inl (by rfl)) (Upd.done ?_))
  refine WpM.less (St.Le.refl _) (frLe_frOf (l := [(2, .ptr n0 0), (3, .ptr (n0 + 1) 0), (4, .ptr (n0 + 2) 0), (6, .ptr (n0 + 7) 0)]) (by (simp (maxSteps := 2000000) (disch := omega) [go_sem, -List.map_map]))) ?_
  ((repeat refine WpM.seq ?_); have z_ex := (And.intro @encTxn.eq_1 True.intro); refine WpM.regPE [] [(2, _), (4, _), (6, _), (13, _), (14, _), (15, _)] (by (refine s_o [(3, _)] rfl rfl rfl z_su rfl q_fieldAddr z_fp z_ss ?_; refine s_o [(12, _)] rfl rfl rfl z_su rfl q_load z_fp z_ss ?_; refine s_o [(13, _)] rfl rfl rfl z_su rfl q_full z_fp z_ss ?_; refine s_o [] rfl rfl rfl z_su rfl q_move z_fp z_ss ?_; exact wpS_nil ⟨rfl, rfl⟩)) z_su ?_; clear z_ex)
  ((repeat refine WpM.seq ?_); refine WpM.block ?_)
  refine WpM.loop (fun (j : Nat) fr S => j ≤ t.ops.length ∧ (∀ i (h' : i < t.ops.length), i < j → okKey h.keys.length t.ops[i] = true) ∧ ∃ nx nr ys, n0 + 8 ≤ nr ∧ nr < nx ∧ ys = ((t.ops.take j).map fun o => V.d (encCall (callOf' h.keys o))) ∧ fr = frOf [(2, .ptr n0 0), (4, .ptr (n0 + 2) 0), (6, .ptr (n0 + 7) 0), (13, .d (.sl (t.ops.map encOp))), (14, .d (.int .i64 t.ops.length)), (15, .d (.int .i64 j))] ∧ S = ⟨nx, [(n0, some (.box [.d (strs h.keys), .d (.sl (h.txns.map encTxn))])), (n0 + 2, some (.box [.d (.int .i64 0), .d (.int .i64 0), .nil])), (n0 + 7, some (.box [.d (.int .i64 0), .d (.int .i64 t.status), .ms nr 5 0 ys.length])), (nr, some (.row 5 ys))], H⟩) (fun j => t.ops.length - j) 0 (le_cut hH (by (simp (maxSteps := 2000000) (disch := omega) [go_sem, -List.map_map])) (Nat.le_refl _) (by (simp (maxSteps := 2000000) (disch := omega) [go_sem, -List.map_map, encHist, strs]))) (frLe_frOf (by (simp (maxSteps := 2000000) (disch := omega) [go_sem, -List.map_map]))) ⟨by omega, by simp, n0 + 14, n0 + 9, [], by omega, by omega, by simp, rfl, rfl⟩ ?_
  rintro j fr S' ⟨hj, hall, nx, nr, ys, hnr, hnx, hys, rfl, rfl⟩
  have hyl : ys.length = j := by rw [hys]; simp; omega
  ((repeat refine WpM.seq ?_); have z_ex := True.intro; refine WpM.regPE [] [(2, _), (4, _), (6, _), (13, _), (14, _), (15, _), (16, _)] (by (refine s_o [(14, _), (15, _)] rfl rfl rfl z_su rfl q_full z_fp z_ss ?_; exact wpS_nil ⟨rfl, rfl⟩)) z_su ?_; clear z_ex)
  by_cases hlt : j < t.ops.length
  · ((repeat refine WpM.seq ?_); refine WpM.condT (by (simp (maxSteps := 2000000) (disch := omega) [go_sem, -List.map_map, hlt])) ?_)
    refine WpM.skip ?_
    ((repeat refine WpM.seq ?_); refine WpM.block ?_)
    obtain ⟨o, ho⟩ : ∃ o, o = t.ops[j] := ⟨_, rfl⟩
    have hget : (t.ops.map encOp)[j]? = some (encOp o) := by simp [hlt, ho]
    obtain ⟨ok1, ok2, ok3, ok4⟩ := ht.2.2.2.2.2 o (ho ▸ List.getElem_mem _)
    have bad : okKey h.keys.length o = false → ys.length = j → (t.ops.takeWhile (okKey h.keys.length) = t.ops.take j ∧ evOkB h.keys t = false) := fun hb _ => by
      obtain ⟨h1, h2⟩ := takeWhile_bad _ t.ops j hlt hall (ho ▸ hb)
      exact ⟨h1, by simp [evOkB, h2]⟩
    ((repeat refine WpM.seq ?_); have z_ex := (And.intro @hget (And.intro @encOp.eq_1 True.intro)); refine WpM.regPE [] [(2, _), (4, _), (6, _), (8, _), (13, _), (14, _), (15, _)] (by (refine s_o [(13, _), (15, _)] rfl rfl rfl z_su rfl q_full z_fp z_ss ?_; refine s_o [(17, _)] rfl rfl rfl z_su rfl q_load z_fp z_ss ?_; refine s_o [] rfl rfl rfl z_su rfl q_alloc z_fp z_ss ?_; refine s_o [(8, _), (18, _)] rfl rfl rfl z_su rfl q_store z_fp z_ss ?_; exact wpS_nil ⟨rfl, rfl⟩)) z_su ?_; clear z_ex)
    by_cases hk : okKey h.keys.length o = true
    · obtain ⟨hk1, hk2⟩ : 0 ≤ o.key ∧ o.key < h.keys.length := by simpa [okKey] using hk
      obtain ⟨kn, hkn⟩ : ∃ kn : Nat, o.key = kn := ⟨o.key.toNat, by omega⟩
      have hkl : kn < h.keys.length := by omega
      have hkx : h.keys[kn]? = some (h.keys.getD kn ByteArray.empty) := by simp [hkl]
      have hcall : callOf' h.keys o = ⟨o.kind, h.keys.getD kn ByteArray.empty, o.arg, o.got, o.vals⟩ := by simp [callOf', hkn]
      obtain ⟨key, hkey⟩ : ∃ key, key = h.keys.getD kn ByteArray.empty := ⟨_, rfl⟩
      have hkg : (h.keys.map D.str)[kn]? = some (.str key) := by rw [List.getElem?_map, hkx, hkey]; rfl
      rw [← hkey] at hcall
      have hn1 : ¬ ((kn : Int) < 0) := by omega
      have hn2 : ¬ ((h.keys.length : Int) ≤ kn) := by omega
      ((repeat refine WpM.seq ?_); have z_ex := (And.intro @hkn (And.intro @hn1 (And.intro @hn2 (And.intro @strs.eq_1 (And.intro @hkl True.intro))))); refine WpM.regPE [] [(2, _), (4, _), (6, _), (8, _), (13, _), (14, _), (15, _), (29, _)] (by (refine s_o [(8, _)] rfl rfl rfl z_su rfl q_fieldAddr z_fp z_ss ?_; refine s_o [(19, _)] rfl rfl rfl z_su rfl q_load z_fp z_ss ?_; refine s_o [(20, _)] rfl rfl rfl z_su rfl q_full z_fp z_ss ?_; refine s_o [(21, _)] rfl rfl rfl z_su rfl q_move z_fp z_ss ?_; refine s_wit ?_; intro z_g; (first | refine s_skip rfl z_g z_fp ?_ | (refine s_o [(8, _)] rfl z_g rfl z_su rfl q_fieldAddr z_fp z_ss ?_)); clear z_g; refine s_wit ?_; intro z_g; (first | refine s_skip rfl z_g z_fp ?_ | (refine s_o [(23, _)] rfl z_g rfl z_su rfl q_load z_fp z_ss ?_)); clear z_g; refine s_wit ?_; intro z_g; (first | refine s_skip rfl z_g z_fp ?_ | (refine s_o [(2, _)] rfl z_g rfl z_su rfl q_fieldAddr z_fp z_ss ?_)); clear z_g; refine s_wit ?_; intro z_g; (first | refine s_skip rfl z_g z_fp ?_ | (refine s_o [(25, _)] rfl z_g rfl z_su rfl q_load z_fp z_ss ?_)); clear z_g; refine s_wit ?_; intro z_g; (first | refine s_skip rfl z_g z_fp ?_ | (refine s_o [(26, _)] rfl z_g rfl z_su rfl q_full z_fp z_ss ?_)); clear z_g; refine s_wit ?_; intro z_g; (first | refine s_skip rfl z_g z_fp ?_ | (refine s_o [(24, _), (27, _)] rfl z_g rfl z_su rfl q_full z_fp z_ss ?_)); clear z_g; refine s_o [(22, _), (28, _)] rfl rfl rfl z_su rfl q_move z_fp z_ss ?_; exact wpS_nil ⟨rfl, rfl⟩)) z_su ?_; clear z_ex)
      ((repeat refine WpM.seq ?_); refine WpM.condF (by (simp (maxSteps := 2000000) (disch := omega) [go_sem, -List.map_map, hn1, hn2])) ?_)
      refine WpM.skip ?_
      have hys' : ys ++ [V.d (encCall (callOf' h.keys o))] = (t.ops.take (j + 1)).map (fun o => V.d (encCall (callOf' h.keys o))) := by rw [hys, List.take_succ_eq_append_getElem hlt, ← ho]; simp
      rw [hcall] at hys'
      have hall' : ∀ i (h' : i < t.ops.length), i < j + 1 → okKey h.keys.length t.ops[i] = true := fun i h' hi => by
        rcases Nat.lt_or_ge i j with h2 | h2
        · exact hall i h' h2
        · obtain rfl : i = j := by omega
          rw [← ho]; exact hk
      ((repeat refine WpM.seq ?_); have z_ex := (And.intro @hkn (And.intro @hn1 (And.intro @hn2 (And.intro @strs.eq_1 (And.intro @hkl (And.intro @hkg True.intro)))))); refine WpM.drwPE [] [(2, _), (4, _), (6, _), (13, _), (14, _), (15, _)] mixed (by kernel_rfl) (by kernel_rfl) [(1, 17)] (by kernel_rfl) (by (refine d_o [(6, _)] rfl rfl rfl z_su rfl q_fieldAddr z_fp z_ss rfl ?_; refine d_o [(31, _)] rfl rfl rfl z_su rfl q_load z_fp z_ss rfl ?_; refine d_o [(8, _)] rfl rfl rfl z_su rfl q_fieldAddr z_fp z_ss rfl ?_; refine d_o [(33, _)] rfl rfl rfl z_su rfl q_load z_fp z_ss rfl ?_; refine d_o [(2, _)] rfl rfl rfl z_su rfl q_fieldAddr z_fp z_ss rfl ?_; refine d_o [(35, _)] rfl rfl rfl z_su rfl q_load z_fp z_ss rfl ?_; refine d_o [(8, _)] rfl rfl rfl z_su rfl q_fieldAddr z_fp z_ss rfl ?_; refine d_o [(37, _)] rfl rfl rfl z_su rfl q_load z_fp z_ss rfl ?_; refine d_o [(36, _), (38, _)] rfl rfl rfl z_su rfl q_full z_fp z_ss rfl ?_; refine d_o [(39, _)] rfl rfl rfl z_su rfl q_load z_fp z_ss rfl ?_; refine d_o [(8, _)] rfl rfl rfl z_su rfl q_fieldAddr z_fp z_ss rfl ?_; refine d_o [(41, _)] rfl rfl rfl z_su rfl q_load z_fp z_ss rfl ?_; refine d_o [(8, _)] rfl rfl rfl z_su rfl q_fieldAddr z_fp z_ss rfl ?_; refine d_o [(43, _)] rfl rfl rfl z_su rfl q_load z_fp z_ss rfl ?_; refine d_o [(8, _)] rfl rfl rfl z_su rfl q_fieldAddr z_fp z_ss rfl ?_; refine d_o [(45, _)] rfl rfl rfl z_su rfl q_load z_fp z_ss rfl ?_; refine d_o [(34, _), (40, _), (42, _), (44, _), (46, _)] rfl rfl rfl z_su rfl q_build z_fp z_ss rfl ?_; refine d_o [(47, _)] rfl rfl rfl z_su rfl q_full z_fp z_ss rfl ?_; refine d_o [(32, _), (48, _)] rfl rfl rfl z_su rfl q_full z_fp z_ss rfl ?_; refine d_o [(6, _)] rfl rfl rfl z_su rfl q_fieldAddr z_fp z_ss rfl ?_; refine d_o [(49, _), (50, _)] rfl rfl rfl z_su rfl q_store z_fp z_ss rfl ?_; exact d_end z_mt z_sn)) z_su ?_; clear z_ex)
      ((repeat refine WpM.seq ?_); have z_ex := (And.intro @wrap_id True.intro); refine WpM.regPE [] [(2, _), (4, _), (6, _), (13, _), (14, _), (15, _)] (by (refine s_o [(15, _)] rfl rfl rfl z_su rfl q_full z_fp z_ss ?_; refine s_o [(51, _)] rfl rfl rfl z_su rfl q_move z_fp z_ss ?_; exact wpS_nil ⟨rfl, rfl⟩)) z_su ?_; clear z_ex)
      exact round_end (x' := j + 1) (le_cut (l' := [(n0, some (.box [.d (strs h.keys), .d (.sl (h.txns.map encTxn))])), (n0 + 2, some (.box [.d (.int .i64 0), .d (.int .i64 0), .nil])), (n0 + 7, some (.box [.d (.int .i64 0), .d (.int .i64 t.status), .ms (nx + 34) 5 0 (ys.length + 1)])), (nx + 34, some (.row 5 (ys ++ [V.d (encCall ⟨o.kind, key, o.arg, o.got, o.vals⟩)])))]) hH (by (simp (maxSteps := 2000000) (disch := omega) [go_sem, -List.map_map]); omega) (Nat.le_refl _) (by (simp (maxSteps := 2000000) (disch := omega) [go_sem, -List.map_map, encCall]))) (frLe_frOf (by (simp (maxSteps := 2000000) (disch := omega) [go_sem, -List.map_map, wrap_id]))) ⟨by omega, hall', nx + 39, nx + 34, _, by omega, by omega, hys', rfl, by (simp (maxSteps := 2000000) (disch := omega) [go_sem, -List.map_map])⟩ (by omega)
    · have hk' : okKey h.keys.length o = false := by simpa using hk
      obtain ⟨hb1, hb2⟩ := bad hk' hyl
      have hev : encEvent (evOf h.keys t) = .agg [.int .i64 0, .int .i64 t.status, .sl ((t.ops.take j).map fun o => encCall (callOf' h.keys o))] := by simp [encEvent, evOf, hb1, List.map_map, Function.comp_def]
      rw [hev, hb2]
      refine Upd.wp (Upd.freezeIn (n0 + 7) 2 (cs := [.d (.int .i64 0), .d (.int .i64 t.status), .ms nr 5 0 ys.length]) (xs := ys) ((t.ops.take j).map fun o => encCall (callOf' h.keys o)) (by (simp (maxSteps := 2000000) (disch := omega) [go_sem, -List.map_map])) (by rfl) (by (simp (maxSteps := 2000000) (disch := omega) [go_sem, -List.map_map])) (by rw [List.drop_zero, List.take_length, hys, List.map_map]; rfl) (by simp [hys]) (Upd.done ?_))
      refine WpM.less (le_cut (n' := nx + 6) (l' := [(n0, some (.box [.d (strs h.keys), .d (.sl (h.txns.map encTxn))])), (n0 + 2, some (.box [.d (.int .i64 0), .d (.int .i64 0), .nil])), (n0 + 7, some (.box [.d (.int .i64 0), .d (.int .i64 t.status), .d (.sl ((t.ops.take j).map fun o => encCall (callOf' h.keys o)))])), (nx + 3, some (.box [.d (.int .i64 o.kind), .d (.int .i64 o.key), .d (.int .i64 o.arg), .d (.bool o.got), .d (.sl (o.vals.map (D.int .i64)))]))]) hH (by (simp (maxSteps := 2000000) (disch := omega) [go_sem, -List.map_map]); omega) (by (simp (maxSteps := 2000000) (disch := omega) [go_sem, -List.map_map])) (by (simp (maxSteps := 2000000) (disch := omega) [go_sem, -List.map_map]))) (frLe_frOf (l := [(2, .ptr n0 0), (4, .ptr (n0 + 2) 0), (6, .ptr (n0 + 7) 0), (8, .ptr (nx + 3) 0)]) (by (simp (maxSteps := 2000000) (disch := omega) [go_sem, -List.map_map]))) ?_
      have hcase : o.key < 0 ∨ ¬ o.key < 0 ∧ (h.keys.length : Int) ≤ o.key := by
        have : ¬ (0 ≤ o.key ∧ o.key < h.keys.length) := by simpa [okKey] using hk'
        omega
      rcases hcase with hc | ⟨hc1, hc2⟩
      · ((repeat refine WpM.seq ?_); have z_ex := (And.intro @hc (And.intro @strs.eq_1 True.intro)); refine WpM.regPE [] [(2, _), (4, _), (6, _), (8, _), (13, _), (14, _), (15, _), (29, _)] (by (refine s_o [(8, _)] rfl rfl rfl z_su rfl q_fieldAddr z_fp z_ss ?_; refine s_o [(19, _)] rfl rfl rfl z_su rfl q_load z_fp z_ss ?_; refine s_o [(20, _)] rfl rfl rfl z_su rfl q_full z_fp z_ss ?_; refine s_o [(21, _)] rfl rfl rfl z_su rfl q_move z_fp z_ss ?_; refine s_wit ?_; intro z_g; (first | refine s_skip rfl z_g z_fp ?_ | (refine s_o [(8, _)] rfl z_g rfl z_su rfl q_fieldAddr z_fp z_ss ?_)); clear z_g; refine s_wit ?_; intro z_g; (first | refine s_skip rfl z_g z_fp ?_ | (refine s_o [(23, _)] rfl z_g rfl z_su rfl q_load z_fp z_ss ?_)); clear z_g; refine s_wit ?_; intro z_g; (first | refine s_skip rfl z_g z_fp ?_ | (refine s_o [(2, _)] rfl z_g rfl z_su rfl q_fieldAddr z_fp z_ss ?_)); clear z_g; refine s_wit ?_; intro z_g; (first | refine s_skip rfl z_g z_fp ?_ | (refine s_o [(25, _)] rfl z_g rfl z_su rfl q_load z_fp z_ss ?_)); clear z_g; refine s_wit ?_; intro z_g; (first | refine s_skip rfl z_g z_fp ?_ | (refine s_o [(26, _)] rfl z_g rfl z_su rfl q_full z_fp z_ss ?_)); clear z_g; refine s_wit ?_; intro z_g; (first | refine s_skip rfl z_g z_fp ?_ | (refine s_o [(24, _), (27, _)] rfl z_g rfl z_su rfl q_full z_fp z_ss ?_)); clear z_g; refine s_o [(22, _), (28, _)] rfl rfl rfl z_su rfl q_move z_fp z_ss ?_; exact wpS_nil ⟨rfl, rfl⟩)) z_su ?_; clear z_ex)
        ((repeat refine WpM.seq ?_); refine WpM.condT (by (simp (maxSteps := 2000000) (disch := omega) [go_sem, -List.map_map, hc])) ?_)
        ((repeat refine WpM.seq ?_); have z_ex := True.intro; refine WpM.regPE [] [(4, _), (5, _)] (by (refine s_o [(6, _)] rfl rfl rfl z_su rfl q_load z_fp z_ss ?_; refine s_o [(4, _), (30, _)] rfl rfl rfl z_su rfl q_store z_fp z_ss ?_; refine s_o [] rfl rfl rfl z_su rfl q_move z_fp z_ss ?_; exact wpS_nil ⟨rfl, rfl⟩)) z_su ?_; clear z_ex)
        (refine WpM.ret ?_; refine ⟨.inr rfl, Upd.done ?_⟩; (simp (maxSteps := 2000000) (disch := omega) [go_sem, -List.map_map, resV, resVs, resV1,]))
        omega
      · ((repeat refine WpM.seq ?_); have z_ex := (And.intro @hc1 (And.intro @hc2 (And.intro @strs.eq_1 True.intro))); refine WpM.regPE [] [(2, _), (4, _), (6, _), (8, _), (13, _), (14, _), (15, _), (29, _)] (by (refine s_o [(8, _)] rfl rfl rfl z_su rfl q_fieldAddr z_fp z_ss ?_; refine s_o [(19, _)] rfl rfl rfl z_su rfl q_load z_fp z_ss ?_; refine s_o [(20, _)] rfl rfl rfl z_su rfl q_full z_fp z_ss ?_; refine s_o [(21, _)] rfl rfl rfl z_su rfl q_move z_fp z_ss ?_; refine s_wit ?_; intro z_g; (first | refine s_skip rfl z_g z_fp ?_ | (refine s_o [(8, _)] rfl z_g rfl z_su rfl q_fieldAddr z_fp z_ss ?_)); clear z_g; refine s_wit ?_; intro z_g; (first | refine s_skip rfl z_g z_fp ?_ | (refine s_o [(23, _)] rfl z_g rfl z_su rfl q_load z_fp z_ss ?_)); clear z_g; refine s_wit ?_; intro z_g; (first | refine s_skip rfl z_g z_fp ?_ | (refine s_o [(2, _)] rfl z_g rfl z_su rfl q_fieldAddr z_fp z_ss ?_)); clear z_g; refine s_wit ?_; intro z_g; (first | refine s_skip rfl z_g z_fp ?_ | (refine s_o [(25, _)] rfl z_g rfl z_su rfl q_load z_fp z_ss ?_)); clear z_g; refine s_wit ?_; intro z_g; (first | refine s_skip rfl z_g z_fp ?_ | (refine s_o [(26, _)] rfl z_g rfl z_su rfl q_full z_fp z_ss ?_)); clear z_g; refine s_wit ?_; intro z_g; (first | refine s_skip rfl z_g z_fp ?_ | (refine s_o [(24, _), (27, _)] rfl z_g rfl z_su rfl q_full z_fp z_ss ?_)); clear z_g; refine s_o [(22, _), (28, _)] rfl rfl rfl z_su rfl q_move z_fp z_ss ?_; exact wpS_nil ⟨rfl, rfl⟩)) z_su ?_; clear z_ex)
        ((repeat refine WpM.seq ?_); refine WpM.condT (by (simp (maxSteps := 2000000) (disch := omega) [go_sem, -List.map_map, hc1, hc2])) ?_)
        ((repeat refine WpM.seq ?_); have z_ex := True.intro; refine WpM.regPE [] [(4, _), (5, _)] (by (refine s_o [(6, _)] rfl rfl rfl z_su rfl q_load z_fp z_ss ?_; refine s_o [(4, _), (30, _)] rfl rfl rfl z_su rfl q_store z_fp z_ss ?_; refine s_o [] rfl rfl rfl z_su rfl q_move z_fp z_ss ?_; exact wpS_nil ⟨rfl, rfl⟩)) z_su ?_; clear z_ex)
        (refine WpM.ret ?_; refine ⟨.inr rfl, Upd.done ?_⟩; (simp (maxSteps := 2000000) (disch := omega) [go_sem, -List.map_map, resV, resVs, resV1,]))
        omega
  · ((repeat refine WpM.seq ?_); refine WpM.condF (by (simp (maxSteps := 2000000) (disch := omega) [go_sem, -List.map_map, hlt])) ?_)
    (refine WpM.exit ?_; (repeat (with_reducible (first | refine thenM_exit ?_ | refine blockM_eq ?_ | refine blockM_ne (by decide) ?_))))
    obtain rfl : j = t.ops.length := by omega
    rw [List.take_length] at hys
    obtain ⟨g1, g2⟩ := takeWhile_good (okKey h.keys.length) t.ops (fun i hi => hall i hi hi)
    have hev : encEvent (evOf h.keys t) = .agg [.int .i64 0, .int .i64 t.status, .sl (t.ops.map fun o => encCall (callOf' h.keys o))] := by simp [encEvent, evOf, g1, List.map_map, Function.comp_def]
    have hevok : evOkB h.keys t = eventOk (evOf h.keys t) := by simp [evOkB, g2]
    have hck := check44_one hh.1 ht
    rw [← hevok] at hck
    rw [show evs [evOf h.keys t] = .sl [encEvent (evOf h.keys t)] from rfl, hev] at hck
    rw [hev]
    refine Upd.wp (Upd.freezeIn (n0 + 7) 2 (cs := [.d (.int .i64 0), .d (.int .i64 t.status), .ms nr 5 0 ys.length]) (xs := ys) (t.ops.map fun o => encCall (callOf' h.keys o)) (by (simp (maxSteps := 2000000) (disch := omega) [go_sem, -List.map_map])) (by rfl) (by (simp (maxSteps := 2000000) (disch := omega) [go_sem, -List.map_map])) (by rw [List.drop_zero, List.take_length, hys, List.map_map]; rfl) (by simp [hys]) (Upd.done ?_))
    refine WpM.less (le_cut (n' := nx + 1) (l' := [(n0, some (.box [.d (strs h.keys), .d (.sl (h.txns.map encTxn))])), (n0 + 2, some (.box [.d (.int .i64 0), .d (.int .i64 0), .nil])), (n0 + 7, some (.box [.d (.int .i64 0), .d (.int .i64 t.status), .d (.sl (t.ops.map fun o => encCall (callOf' h.keys o)))]))]) hH (by (simp (maxSteps := 2000000) (disch := omega) [go_sem, -List.map_map]); omega) (by (simp (maxSteps := 2000000) (disch := omega) [go_sem, -List.map_map])) (by (simp (maxSteps := 2000000) (disch := omega) [go_sem, -List.map_map]))) (frLe_frOf (l := [(4, .ptr (n0 + 2) 0), (6, .ptr (n0 + 7) 0)]) (by (simp (maxSteps := 2000000) (disch := omega) [go_sem, -List.map_map]))) ?_
    cases hb : evOkB h.keys t with
    | true =>
      rw [hb] at hck
      ((repeat refine WpM.seq ?_); have z_ex := True.intro; refine WpM.drwPE [] [(4, _), (5, _)] mixed (by kernel_rfl) (by kernel_rfl) [(0, 2), (0, 3)] (by kernel_rfl) (by (refine d_o [(6, _)] rfl rfl rfl z_su rfl q_load z_fp z_ss rfl ?_; refine d_o [(6, _)] rfl rfl rfl z_su rfl q_load z_fp z_ss rfl ?_; refine d_o [(53, _)] rfl rfl rfl z_su rfl q_full z_fp z_ss rfl ?_; refine d_pure (callOf_eq rfl rfl rfl (mlk_tmp z_lk mlk_nil)) (hck) rfl rfl z_ip rfl z_fp ?_; refine d_o [(55, _)] rfl rfl rfl z_su rfl q_full z_fp z_ss rfl ?_; refine d_o [(4, _), (52, _)] rfl rfl rfl z_su rfl q_store z_fp z_ss rfl ?_; refine d_o [(56, _)] rfl rfl rfl z_su rfl q_move z_fp z_ss rfl ?_; exact d_end z_mt z_sn)) z_su ?_; clear z_ex)
      (refine WpM.ret ?_; refine ⟨.inr rfl, Upd.done ?_⟩; (simp (maxSteps := 2000000) (disch := omega) [go_sem, -List.map_map, resV, resVs, resV1,]))
    | false =>
      rw [hb] at hck
      ((repeat refine WpM.seq ?_); have z_ex := True.intro; refine WpM.drwPE [] [(4, _), (5, _)] mixed (by kernel_rfl) (by kernel_rfl) [(0, 2), (0, 3)] (by kernel_rfl) (by (refine d_o [(6, _)] rfl rfl rfl z_su rfl q_load z_fp z_ss rfl ?_; refine d_o [(6, _)] rfl rfl rfl z_su rfl q_load z_fp z_ss rfl ?_; refine d_o [(53, _)] rfl rfl rfl z_su rfl q_full z_fp z_ss rfl ?_; refine d_pure (callOf_eq rfl rfl rfl (mlk_tmp z_lk mlk_nil)) (hck) rfl rfl z_ip rfl z_fp ?_; refine d_o [(55, _)] rfl rfl rfl z_su rfl q_full z_fp z_ss rfl ?_; refine d_o [(4, _), (52, _)] rfl rfl rfl z_su rfl q_store z_fp z_ss rfl ?_; refine d_o [(56, _)] rfl rfl rfl z_su rfl q_move z_fp z_ss rfl ?_; exact d_end z_mt z_sn)) z_su ?_; clear z_ex)
      (refine WpM.ret ?_; refine ⟨.inr rfl, Upd.done ?_⟩; (simp (maxSteps := 2000000) (disch := omega) [go_sem, -List.map_map, resV, resVs, resV1,]))
end Go.Proofs.Ytjjmedgibcffhaa
/- Histories that come in; the rows of the laws of layer 5. -/
namespace Go.Proofs.Ytjjmedgibcffhaa
open Go.RowKit Go.MapKept Go.ChangeShapes Go.WideShapes Go.ChangeAt M
set_option linter.unusedSimpArgs false
set_option linter.unusedVariables false
set_option maxRecDepth 100000 in
theorem opensD_op : OpensD encOp OpOk Try.prog 65 := by
  intro H enc w base spare held fuel cs x h hz
  obtain ⟨hl, hf⟩ := M.opens_field Try.underlying65 h hz
  have hl5 : cs.length = 5 := hl.trans (by kernel_rfl)
  obtain ⟨c0, c1, c2, c3, c4, rfl⟩ := list5 hl5
  obtain ⟨m0, y0, h0, z0⟩ := hf 0 3 0 1 rfl (by kernel_rfl)
  obtain ⟨m1, y1, h1, z1⟩ := hf 1 3 1 1 rfl (by kernel_rfl)
  obtain ⟨m2, y2, h2, z2⟩ := hf 2 2 2 1 rfl (by kernel_rfl)
  obtain ⟨m3, y3, h3, z3⟩ := hf 3 4 3 1 rfl (by kernel_rfl)
  obtain ⟨m4, y4, h4, z4⟩ := hf 4 44 4 1 rfl (by kernel_rfl)
  obtain ⟨a0, k0, v0⟩ := opensD_int Try.underlying3 h0 z0
  obtain ⟨a1, k1, v1⟩ := opensD_int Try.underlying3 h1 z1
  obtain ⟨a2, k2, v2⟩ := opensD_int Try.underlying2 h2 z2
  obtain ⟨a3, k3, v3⟩ := opensD_bool Try.underlying4 h3 z3
  obtain ⟨a4, k4, v4⟩ := opensD_sl (sz := 1) (by_ := 8) Try.underlying44 (opensD_int Try.underlying2) (by kernel_rfl) (by kernel_rfl) (by decide) (fun _ => rfl) h4 z4
  exact ⟨⟨a0, a1, a2, a3, a4⟩, cells_agg (.cons (CellsOf.val k0 rfl) (.cons (CellsOf.val k1 rfl) (.cons (CellsOf.val k2 rfl) (.cons (CellsOf.val k3 rfl) (.cons (CellsOf.val k4 rfl) .nil))))), v0, v1, v2, v4⟩
set_option maxRecDepth 100000 in
theorem opensD_txn : OpensD encTxn TxnOk Try.prog 63 := by
  intro H enc w base spare held fuel cs x h hz
  obtain ⟨hl, hf⟩ := M.opens_field Try.underlying63 h hz
  have hl5 : cs.length = 5 := hl.trans (by kernel_rfl)
  obtain ⟨c0, c1, c2, c3, c4, rfl⟩ := list5 hl5
  obtain ⟨m0, y0, h0, z0⟩ := hf 0 2 0 1 rfl (by kernel_rfl)
  obtain ⟨m1, y1, h1, z1⟩ := hf 1 3 1 1 rfl (by kernel_rfl)
  obtain ⟨m2, y2, h2, z2⟩ := hf 2 3 2 1 rfl (by kernel_rfl)
  obtain ⟨m3, y3, h3, z3⟩ := hf 3 3 3 1 rfl (by kernel_rfl)
  obtain ⟨m4, y4, h4, z4⟩ := hf 4 61 4 1 rfl (by kernel_rfl)
  obtain ⟨a0, k0, v0⟩ := opensD_int Try.underlying2 h0 z0
  obtain ⟨a1, k1, v1⟩ := opensD_int Try.underlying3 h1 z1
  obtain ⟨a2, k2, v2⟩ := opensD_int Try.underlying3 h2 z2
  obtain ⟨a3, k3, v3⟩ := opensD_int Try.underlying3 h3 z3
  obtain ⟨a4, k4, v4⟩ := opensD_sl (sz := 5) (by_ := 56) Try.underlying61 opensD_op (by kernel_rfl) (by kernel_rfl) (by decide) (fun _ => rfl) h4 z4
  exact ⟨⟨a0, a1, a2, a3, a4⟩, cells_agg (.cons (CellsOf.val k0 rfl) (.cons (CellsOf.val k1 rfl) (.cons (CellsOf.val k2 rfl) (.cons (CellsOf.val k3 rfl) (.cons (CellsOf.val k4 rfl) .nil))))), v0, v1, v2, v3, v4⟩
theorem list2 {α : Type} : ∀ {l : List α}, l.length = 2 → ∃ a b, l = [a, b]
  | [a, b], _ => ⟨a, b, rfl⟩
set_option maxRecDepth 100000 in
theorem opensD_hist : OpensD encHist HistOk Try.prog 53 := by
  intro H enc w base spare held fuel cs x h hz
  obtain ⟨hl, hf⟩ := M.opens_field Try.underlying53 h hz
  have hl2 : cs.length = 2 := hl.trans (by kernel_rfl)
  obtain ⟨c0, c1, rfl⟩ := list2 hl2
  obtain ⟨m0, y0, h0, z0⟩ := hf 0 50 0 1 rfl (by kernel_rfl)
  obtain ⟨m1, y1, h1, z1⟩ := hf 1 51 1 1 rfl (by kernel_rfl)
  obtain ⟨a0, k0, v0⟩ := opensD_sl (sz := 1) (by_ := 16) Try.underlying50 (opensD_str Try.underlying9) (by kernel_rfl) (by kernel_rfl) (by decide) (fun _ => rfl) h0 z0
  obtain ⟨a1, k1, v1⟩ := opensD_sl (sz := 5) (by_ := 56) Try.underlying51 opensD_txn (by kernel_rfl) (by kernel_rfl) (by decide) (fun _ => rfl) h1 z1
  exact ⟨⟨a0, a1⟩, cells_agg (.cons (CellsOf.val k0 rfl) (.cons (CellsOf.val k1 rfl) .nil)), v0, v1⟩
theorem rd_cells {F : Nat → Prop} {w : World} {ds : List D} {v : Value} (h : CellsOf F w (.agg ds) v.cells.toList) (hl : ds.length ≠ 1) : RD F w (.agg ds) v := by
  obtain ⟨h1, h2⟩ := h
  have hd : (D.agg ds).cells = ds := rfl
  rw [hd] at h1 h2
  cases v with
  | agg cs =>
    refine .agg _ cs (by simpa [Value.cells] using h1) fun j y hy => ?_
    have := h2 j y hy
    simpa [Value.cells] using this
  | _ => simp [Value.cells] at h1; omega
theorem open_hist {H : Type} {enc : TypeId × Value → H} {W : World} {v : Value} {d : DataW H} {p : List MemPlace} (h : DataW.Trod enc Try.prog W 0 (fun _ => true) true 53 v d p) (hz : ∀ n ∈ d.weights Try.prog 53, n ≤ reachBytes) :
    ∃ x, RD (fun b => b < W.heap.size) W (encHist x) v ∧ HistOk x := by
  obtain ⟨_, h⟩ := h
  obtain ⟨x, h1, h2⟩ := opensD_hist h hz
  exact ⟨x, rd_cells h1 (by simp), h2⟩
def gAll (W : World) : Gh := ⟨fun _ => ⟨none, 0, 0, 0⟩, fun _ => False, fun b => b < W.heap.size⟩
theorem pure_calls {f : FuncId} {args : List V} {vals : Array Value} {W : World} (h : PureC Try.prog f args (.d (.bool true))) (hl : vals.size = args.length) (hv : ∀ (j : Nat) (y : V), args[j]? = some y → RV (gAll W) W y (vals.getD j undef)) :
    Calls Try.prog f vals W fun e W' => e = .returned (.bool true) ∧ Below W.heap.size W W' := by
  refine (h ⟨0, [], fun _ => none⟩ (gAll W) W vals ⟨fun nm k hk => (by cases hk), fun n m b hn => (by cases hn), fun n b hn => (by cases hn), fun b hb => hb⟩ (fun k hk => hk.elim) hl hv).mono ?_
  rintro e w' ⟨r, v', S', g', rfl, hE, hS, _, hr, rfl, _⟩
  cases hr with | d hr =>
  cases hr
  exact ⟨rfl, hE.os, hE.tape, hE.output, hE.size, fun i hi => hE.keep i hi⟩
set_option maxRecDepth 100000 in
theorem hist_contract (N : Nat) (f : Func) (s : ChangeSpec) (hf : Try.prog.funcs[N]? = some f) (hp : f.params = #[53]) (hr : f.resultTypes = #[4]) (hv : s.vars = []) (hfn : ∀ (H : Type) (d : DataW H), s.fn H [d] = { results := [.lit (.bool true)], args := [d] })
    (hcalls : ∀ h : HistD, HistOk h → PureC Try.prog N [.d (encHist h)] (.d (.bool true)))
    {H : Type} {enc : TypeId × Value → H} {W : World} {args : Array Value} {ds gs : List (DataW H)} {before : List MemPlace} {apart : Bool}
    (hW : DataW.Whole enc Try.prog f.params.toList s.vars apart W args.toList ds gs before)
    (hz : (DataW.weightsEach Try.prog (f.params.toList ++ s.plain.varTypes Try.prog) (ds ++ gs)).all (· ≤ reachBytes) = true) :
    Calls Try.prog N args W fun e W' => ∃ v, e = .returned v ∧ s.post enc Try.prog f apart true false false W args v W' := by
  have hW' := hW
  obtain ⟨p, q, hA, hV, rfl, hfz, hnd⟩ := hW
  rw [hv] at hV
  obtain ⟨rfl, rfl⟩ := trodVars_none hV
  have hvt : s.plain.varTypes Try.prog = [] := by simp [DataSpec.varTypes, ChangeSpec.plain, hv]
  rw [hp] at hA hz
  rw [hvt] at hz
  obtain ⟨v0, d0, rfl, rfl, h0⟩ := trodAll_one hA
  have hall : ∀ n ∈ d0.weights Try.prog 53, n ≤ reachBytes := by
    intro n hn
    have := List.all_eq_true.1 hz n (by simpa [DataW.weightsEach] using hn)
    simpa using this
  obtain ⟨x, h1, h2⟩ := open_hist h0 hall
  refine (pure_calls (vals := #[v0]) (hcalls x h2) rfl fun j y hy => ?_).mono fun e W' ⟨he, hb⟩ => ?_
  · match j, hy with
    | 0, hy => simp at hy; subst hy; exact .d h1
    | j + 1, hy => simp at hy
  · refine ⟨_, he, law_post hW' hv hr ?_ (hfn H d0) hb⟩
    rw [hp]
    decide +kernel
end Go.Proofs.Ytjjmedgibcffhaa
/- The rows of the laws of layer 5 over events. -/
namespace Go.Proofs.Ytjjmedgibcffhaa
open Go.RowKit Go.MapKept Go.ChangeShapes Go.WideShapes Go.ChangeAt M
set_option linter.unusedSimpArgs false
set_option linter.unusedVariables false
set_option maxRecDepth 100000 in
theorem open_evs {H : Type} {enc : TypeId × Value → H} {W : World} {base : Nat} {v : Value} {d : DataW H} {p : List MemPlace} (hval : Value.okWide Try.prog W .any base 27 v)
    (h : DataW.Trod enc Try.prog W 0 (fun _ => true) true 27 v d p) (hz : ∀ n ∈ d.weights Try.prog 27, n ≤ reachBytes) :
    ∃ xs, RD (fun b => b < W.heap.size) W (evs xs) v ∧ SlOk EventOk 40 xs := by
  obtain ⟨a, len, cap, rfl⟩ := okWide_slice Try.underlying27 hval
  obtain ⟨_, h⟩ := h
  obtain ⟨xs, h1, h2⟩ := opensD_events h hz
  exact ⟨xs, CellsOf.val h1 rfl, h2⟩
set_option maxRecDepth 100000 in
theorem evs_contract (N : Nat) (f : Func) (s : ChangeSpec) (hf : Try.prog.funcs[N]? = some f) (hp : f.params = #[27]) (hr : f.resultTypes = #[4]) (hv : s.vars = []) (hfn : ∀ (H : Type) (d : DataW H), s.fn H [d] = { results := [.lit (.bool true)], args := [d] })
    (hcalls : ∀ l : List EventD, SlOk EventOk 40 l → PureC Try.prog N [.d (evs l)] (.d (.bool true)))
    {H : Type} {enc : TypeId × Value → H} {W : World} {base : Nat} {args : Array Value} {ds gs : List (DataW H)} {before : List MemPlace} {apart : Bool}
    (hval : ∀ (j : Nat) t v, f.params[j]? = some t → args[j]? = some v → Value.okWide Try.prog W .any base t v) (hW : DataW.Whole enc Try.prog f.params.toList s.vars apart W args.toList ds gs before)
    (hz : (DataW.weightsEach Try.prog (f.params.toList ++ s.plain.varTypes Try.prog) (ds ++ gs)).all (· ≤ reachBytes) = true) :
    Calls Try.prog N args W fun e W' => ∃ v, e = .returned v ∧ s.post enc Try.prog f apart true false false W args v W' := by
  have hW' := hW
  obtain ⟨p, q, hA, hV, rfl, hfz, hnd⟩ := hW
  rw [hv] at hV
  obtain ⟨rfl, rfl⟩ := trodVars_none hV
  have hvt : s.plain.varTypes Try.prog = [] := by simp [DataSpec.varTypes, ChangeSpec.plain, hv]
  rw [hp] at hA hz hval
  rw [hvt] at hz
  obtain ⟨v0, d0, rfl, rfl, h0⟩ := trodAll_one hA
  have hall : ∀ n ∈ d0.weights Try.prog 27, n ≤ reachBytes := by
    intro n hn
    have := List.all_eq_true.1 hz n (by simpa [DataW.weightsEach] using hn)
    simpa using this
  obtain ⟨xs, h1, h2⟩ := open_evs (hval 0 27 v0 rfl rfl) h0 hall
  refine (pure_calls (vals := #[v0]) (hcalls xs h2) rfl fun j y hy => ?_).mono fun e W' ⟨he, hb⟩ => ?_
  · match j, hy with
    | 0, hy => simp at hy; subst hy; exact .d h1
    | j + 1, hy => simp at hy
  · refine ⟨_, he, law_post hW' hv hr ?_ (hfn H d0) hb⟩
    rw [hp]
    decide +kernel
end Go.Proofs.Ytjjmedgibcffhaa
/- Both placed, and names. -/
namespace Go.Proofs.Ytjjmedgibcffhaa
open Go.RowKit M
set_option linter.unusedSimpArgs false
set_option linter.unusedVariables false
/-- Is the process of t still busy with o when t begins? -/
def busyB (t o : TxnD) : Bool := decide (o.proc = t.proc) && (decide (o.to = -1) || decide (t.frm ≤ o.to))
open Classical in
noncomputable def placedB (ahead : List TxnD) (t : TxnD) : Bool :=
  decide (1 ≤ t.status ∧ t.status ≤ 3 ∧ 0 ≤ t.frm ∧ (t.to = -1 → t.status = 3) ∧ (t.to ≠ -1 → t.frm < t.to) ∧ (∀ o, ahead.getLast? = some o → o.frm < t.frm)) && !ahead.any (busyB t)
set_option maxHeartbeats 8000000 in
theorem busy66 (t o : TxnD) (bx : Nat) (S : St) (hS : S.get bx = some (.box [.d (.int .i64 t.proc), .d (.int .i64 t.status), .d (.int .i64 t.frm), .d (.int .i64 t.to), .d (.sl (t.ops.map encOp))])) : PureS Try.prog 66 [.d (encTxn o), .ptr bx 0] (.d (.bool (busyB t o))) S := by
  refine PureS.of (n := 21) Try.func66 rfl rfl (by simp) (by simp only [argL, Nat.reduceAdd] <;> rfl) rfl ?_
  intro n0 H hH0 hH
  rw [hH0] at hS
  have hbx := hH _ _ hS
  ((repeat refine WpM.seq ?_); have z_ex := (And.intro @encTxn.eq_1 True.intro); refine WpM.regPE [] [(1, _), (2, _)] (by (refine s_o [(0, _)] rfl rfl rfl z_su rfl q_box z_fp z_ss ?_; refine s_o [] rfl rfl rfl z_su rfl q_move z_fp z_ss ?_; exact wpS_nil ⟨rfl, rfl⟩)) z_su ?_; clear z_ex)
  by_cases h1 : o.proc = t.proc
  · by_cases h2 : o.to = -1
    · have hr : busyB t o = true := by simp [busyB, h1, h2]
      ((repeat refine WpM.seq ?_); have z_ex := (And.intro @hS (And.intro @h1 (And.intro @h2 True.intro))); refine WpM.regPE [] [(3, _)] (by (refine s_o [(2, _)] rfl rfl rfl z_su rfl q_fieldAddr z_fp z_ss ?_; refine s_o [(4, _)] rfl rfl rfl z_su rfl q_load z_fp z_ss ?_; refine s_o [(1, _)] rfl rfl rfl z_su rfl q_fieldAddr z_fp z_ss ?_; refine s_o [(6, _)] rfl rfl rfl z_su rfl q_load z_fp z_ss ?_; refine s_o [(5, _), (7, _)] rfl rfl rfl z_su rfl q_full z_fp z_ss ?_; refine s_o [(8, _)] rfl rfl rfl z_su rfl q_move z_fp z_ss ?_; refine s_wit ?_; intro z_g; (first | refine s_skip rfl z_g z_fp ?_ | (refine s_o [(2, _)] rfl z_g rfl z_su rfl q_fieldAddr z_fp z_ss ?_)); clear z_g; refine s_wit ?_; intro z_g; (first | refine s_skip rfl z_g z_fp ?_ | (refine s_o [(10, _)] rfl z_g rfl z_su rfl q_load z_fp z_ss ?_)); clear z_g; refine s_wit ?_; intro z_g; (first | refine s_skip rfl z_g z_fp ?_ | (refine s_o [(11, _)] rfl z_g rfl z_su rfl q_full z_fp z_ss ?_)); clear z_g; refine s_wit ?_; intro z_g; (first | refine s_skip rfl z_g z_fp ?_ | (refine s_o [(12, _)] rfl z_g rfl z_su rfl q_move z_fp z_ss ?_)); clear z_g; refine s_wit ?_; intro z_g; (first | refine s_skip rfl z_g z_fp ?_ | (refine s_o [(2, _)] rfl z_g rfl z_su rfl q_fieldAddr z_fp z_ss ?_)); clear z_g; refine s_wit ?_; intro z_g; (first | refine s_skip rfl z_g z_fp ?_ | (refine s_o [(14, _)] rfl z_g rfl z_su rfl q_load z_fp z_ss ?_)); clear z_g; refine s_wit ?_; intro z_g; (first | refine s_skip rfl z_g z_fp ?_ | (refine s_o [(1, _)] rfl z_g rfl z_su rfl q_fieldAddr z_fp z_ss ?_)); clear z_g; refine s_wit ?_; intro z_g; (first | refine s_skip rfl z_g z_fp ?_ | (refine s_o [(16, _)] rfl z_g rfl z_su rfl q_load z_fp z_ss ?_)); clear z_g; refine s_wit ?_; intro z_g; (first | refine s_skip rfl z_g z_fp ?_ | (refine s_o [(15, _), (17, _)] rfl z_g rfl z_su rfl q_full z_fp z_ss ?_)); clear z_g; refine s_wit ?_; intro z_g; (first | refine s_skip rfl z_g z_fp ?_ | (refine s_o [(13, _), (18, _)] rfl z_g rfl z_su rfl q_move z_fp z_ss ?_)); clear z_g; refine s_o [(9, _), (19, _)] rfl rfl rfl z_su rfl q_move z_fp z_ss ?_; refine s_o [(20, _)] rfl rfl rfl z_su rfl q_move z_fp z_ss ?_; exact wpS_nil ⟨rfl, rfl⟩)) z_su ?_; clear z_ex)
      (refine WpM.ret ?_; refine ⟨.inr rfl, Upd.done ?_⟩; (simp (maxSteps := 2000000) (disch := omega) [go_sem, -List.map_map, resV, resVs, resV1, hr]))
    · by_cases h3 : t.frm ≤ o.to
      · have hr : busyB t o = true := by simp [busyB, h1, h3]
        ((repeat refine WpM.seq ?_); have z_ex := (And.intro @hS (And.intro @h1 (And.intro @h2 (And.intro @h3 True.intro)))); refine WpM.regPE [] [(3, _)] (by (refine s_o [(2, _)] rfl rfl rfl z_su rfl q_fieldAddr z_fp z_ss ?_; refine s_o [(4, _)] rfl rfl rfl z_su rfl q_load z_fp z_ss ?_; refine s_o [(1, _)] rfl rfl rfl z_su rfl q_fieldAddr z_fp z_ss ?_; refine s_o [(6, _)] rfl rfl rfl z_su rfl q_load z_fp z_ss ?_; refine s_o [(5, _), (7, _)] rfl rfl rfl z_su rfl q_full z_fp z_ss ?_; refine s_o [(8, _)] rfl rfl rfl z_su rfl q_move z_fp z_ss ?_; refine s_wit ?_; intro z_g; (first | refine s_skip rfl z_g z_fp ?_ | (refine s_o [(2, _)] rfl z_g rfl z_su rfl q_fieldAddr z_fp z_ss ?_)); clear z_g; refine s_wit ?_; intro z_g; (first | refine s_skip rfl z_g z_fp ?_ | (refine s_o [(10, _)] rfl z_g rfl z_su rfl q_load z_fp z_ss ?_)); clear z_g; refine s_wit ?_; intro z_g; (first | refine s_skip rfl z_g z_fp ?_ | (refine s_o [(11, _)] rfl z_g rfl z_su rfl q_full z_fp z_ss ?_)); clear z_g; refine s_wit ?_; intro z_g; (first | refine s_skip rfl z_g z_fp ?_ | (refine s_o [(12, _)] rfl z_g rfl z_su rfl q_move z_fp z_ss ?_)); clear z_g; refine s_wit ?_; intro z_g; (first | refine s_skip rfl z_g z_fp ?_ | (refine s_o [(2, _)] rfl z_g rfl z_su rfl q_fieldAddr z_fp z_ss ?_)); clear z_g; refine s_wit ?_; intro z_g; (first | refine s_skip rfl z_g z_fp ?_ | (refine s_o [(14, _)] rfl z_g rfl z_su rfl q_load z_fp z_ss ?_)); clear z_g; refine s_wit ?_; intro z_g; (first | refine s_skip rfl z_g z_fp ?_ | (refine s_o [(1, _)] rfl z_g rfl z_su rfl q_fieldAddr z_fp z_ss ?_)); clear z_g; refine s_wit ?_; intro z_g; (first | refine s_skip rfl z_g z_fp ?_ | (refine s_o [(16, _)] rfl z_g rfl z_su rfl q_load z_fp z_ss ?_)); clear z_g; refine s_wit ?_; intro z_g; (first | refine s_skip rfl z_g z_fp ?_ | (refine s_o [(15, _), (17, _)] rfl z_g rfl z_su rfl q_full z_fp z_ss ?_)); clear z_g; refine s_wit ?_; intro z_g; (first | refine s_skip rfl z_g z_fp ?_ | (refine s_o [(13, _), (18, _)] rfl z_g rfl z_su rfl q_move z_fp z_ss ?_)); clear z_g; refine s_o [(9, _), (19, _)] rfl rfl rfl z_su rfl q_move z_fp z_ss ?_; refine s_o [(20, _)] rfl rfl rfl z_su rfl q_move z_fp z_ss ?_; exact wpS_nil ⟨rfl, rfl⟩)) z_su ?_; clear z_ex)
        (refine WpM.ret ?_; refine ⟨.inr rfl, Upd.done ?_⟩; (simp (maxSteps := 2000000) (disch := omega) [go_sem, -List.map_map, resV, resVs, resV1, hr]))
      · have hr : busyB t o = false := by simp [busyB, h2, h3]
        ((repeat refine WpM.seq ?_); have z_ex := (And.intro @hS (And.intro @h1 (And.intro @h2 (And.intro @h3 True.intro)))); refine WpM.regPE [] [(3, _)] (by (refine s_o [(2, _)] rfl rfl rfl z_su rfl q_fieldAddr z_fp z_ss ?_; refine s_o [(4, _)] rfl rfl rfl z_su rfl q_load z_fp z_ss ?_; refine s_o [(1, _)] rfl rfl rfl z_su rfl q_fieldAddr z_fp z_ss ?_; refine s_o [(6, _)] rfl rfl rfl z_su rfl q_load z_fp z_ss ?_; refine s_o [(5, _), (7, _)] rfl rfl rfl z_su rfl q_full z_fp z_ss ?_; refine s_o [(8, _)] rfl rfl rfl z_su rfl q_move z_fp z_ss ?_; refine s_wit ?_; intro z_g; (first | refine s_skip rfl z_g z_fp ?_ | (refine s_o [(2, _)] rfl z_g rfl z_su rfl q_fieldAddr z_fp z_ss ?_)); clear z_g; refine s_wit ?_; intro z_g; (first | refine s_skip rfl z_g z_fp ?_ | (refine s_o [(10, _)] rfl z_g rfl z_su rfl q_load z_fp z_ss ?_)); clear z_g; refine s_wit ?_; intro z_g; (first | refine s_skip rfl z_g z_fp ?_ | (refine s_o [(11, _)] rfl z_g rfl z_su rfl q_full z_fp z_ss ?_)); clear z_g; refine s_wit ?_; intro z_g; (first | refine s_skip rfl z_g z_fp ?_ | (refine s_o [(12, _)] rfl z_g rfl z_su rfl q_move z_fp z_ss ?_)); clear z_g; refine s_wit ?_; intro z_g; (first | refine s_skip rfl z_g z_fp ?_ | (refine s_o [(2, _)] rfl z_g rfl z_su rfl q_fieldAddr z_fp z_ss ?_)); clear z_g; refine s_wit ?_; intro z_g; (first | refine s_skip rfl z_g z_fp ?_ | (refine s_o [(14, _)] rfl z_g rfl z_su rfl q_load z_fp z_ss ?_)); clear z_g; refine s_wit ?_; intro z_g; (first | refine s_skip rfl z_g z_fp ?_ | (refine s_o [(1, _)] rfl z_g rfl z_su rfl q_fieldAddr z_fp z_ss ?_)); clear z_g; refine s_wit ?_; intro z_g; (first | refine s_skip rfl z_g z_fp ?_ | (refine s_o [(16, _)] rfl z_g rfl z_su rfl q_load z_fp z_ss ?_)); clear z_g; refine s_wit ?_; intro z_g; (first | refine s_skip rfl z_g z_fp ?_ | (refine s_o [(15, _), (17, _)] rfl z_g rfl z_su rfl q_full z_fp z_ss ?_)); clear z_g; refine s_wit ?_; intro z_g; (first | refine s_skip rfl z_g z_fp ?_ | (refine s_o [(13, _), (18, _)] rfl z_g rfl z_su rfl q_move z_fp z_ss ?_)); clear z_g; refine s_o [(9, _), (19, _)] rfl rfl rfl z_su rfl q_move z_fp z_ss ?_; refine s_o [(20, _)] rfl rfl rfl z_su rfl q_move z_fp z_ss ?_; exact wpS_nil ⟨rfl, rfl⟩)) z_su ?_; clear z_ex)
        (refine WpM.ret ?_; refine ⟨.inr rfl, Upd.done ?_⟩; (simp (maxSteps := 2000000) (disch := omega) [go_sem, -List.map_map, resV, resVs, resV1, hr]))
  · have hr : busyB t o = false := by simp [busyB, h1]
    ((repeat refine WpM.seq ?_); have z_ex := (And.intro @hS (And.intro @h1 True.intro)); refine WpM.regPE [] [(3, _)] (by (refine s_o [(2, _)] rfl rfl rfl z_su rfl q_fieldAddr z_fp z_ss ?_; refine s_o [(4, _)] rfl rfl rfl z_su rfl q_load z_fp z_ss ?_; refine s_o [(1, _)] rfl rfl rfl z_su rfl q_fieldAddr z_fp z_ss ?_; refine s_o [(6, _)] rfl rfl rfl z_su rfl q_load z_fp z_ss ?_; refine s_o [(5, _), (7, _)] rfl rfl rfl z_su rfl q_full z_fp z_ss ?_; refine s_o [(8, _)] rfl rfl rfl z_su rfl q_move z_fp z_ss ?_; refine s_wit ?_; intro z_g; (first | refine s_skip rfl z_g z_fp ?_ | (refine s_o [(2, _)] rfl z_g rfl z_su rfl q_fieldAddr z_fp z_ss ?_)); clear z_g; refine s_wit ?_; intro z_g; (first | refine s_skip rfl z_g z_fp ?_ | (refine s_o [(10, _)] rfl z_g rfl z_su rfl q_load z_fp z_ss ?_)); clear z_g; refine s_wit ?_; intro z_g; (first | refine s_skip rfl z_g z_fp ?_ | (refine s_o [(11, _)] rfl z_g rfl z_su rfl q_full z_fp z_ss ?_)); clear z_g; refine s_wit ?_; intro z_g; (first | refine s_skip rfl z_g z_fp ?_ | (refine s_o [(12, _)] rfl z_g rfl z_su rfl q_move z_fp z_ss ?_)); clear z_g; refine s_wit ?_; intro z_g; (first | refine s_skip rfl z_g z_fp ?_ | (refine s_o [(2, _)] rfl z_g rfl z_su rfl q_fieldAddr z_fp z_ss ?_)); clear z_g; refine s_wit ?_; intro z_g; (first | refine s_skip rfl z_g z_fp ?_ | (refine s_o [(14, _)] rfl z_g rfl z_su rfl q_load z_fp z_ss ?_)); clear z_g; refine s_wit ?_; intro z_g; (first | refine s_skip rfl z_g z_fp ?_ | (refine s_o [(1, _)] rfl z_g rfl z_su rfl q_fieldAddr z_fp z_ss ?_)); clear z_g; refine s_wit ?_; intro z_g; (first | refine s_skip rfl z_g z_fp ?_ | (refine s_o [(16, _)] rfl z_g rfl z_su rfl q_load z_fp z_ss ?_)); clear z_g; refine s_wit ?_; intro z_g; (first | refine s_skip rfl z_g z_fp ?_ | (refine s_o [(15, _), (17, _)] rfl z_g rfl z_su rfl q_full z_fp z_ss ?_)); clear z_g; refine s_wit ?_; intro z_g; (first | refine s_skip rfl z_g z_fp ?_ | (refine s_o [(13, _), (18, _)] rfl z_g rfl z_su rfl q_move z_fp z_ss ?_)); clear z_g; refine s_o [(9, _), (19, _)] rfl rfl rfl z_su rfl q_move z_fp z_ss ?_; refine s_o [(20, _)] rfl rfl rfl z_su rfl q_move z_fp z_ss ?_; exact wpS_nil ⟨rfl, rfl⟩)) z_su ?_; clear z_ex)
    (refine WpM.ret ?_; refine ⟨.inr rfl, Upd.done ?_⟩; (simp (maxSteps := 2000000) (disch := omega) [go_sem, -List.map_map, resV, resVs, resV1, hr]))
theorem indexFunc71 (l : List TxnD) (p : TxnD → Bool) (f : FuncId) (cs : List V) (S : St) (hl : l.length ≤ 140737488351232) (hp : ∀ x ∈ l, ∀ S' : St, (∀ m k, S.get m = some k → S'.get m = some k) → PureS Try.prog f ([.d (encTxn x)] ++ cs) (.d (.bool (p x))) S') (hip : isPlain Try.prog f = true) :
    PureS Try.prog 71 [.d (.sl (l.map encTxn)), .fn f cs] (.d (.int .i64 (match l.findIdx? p with | some i => i | none => -1))) S := by
  refine PureS.of (n := 19) Try.func71 rfl rfl (by simp) (by simp only [argL, Nat.reduceAdd] <;> rfl) rfl ?_
  intro n0 H hH0 hH
  rw [hH0] at hp
  ((repeat refine WpM.seq ?_); have z_ex := True.intro; refine WpM.regPE [] [(0, _), (1, _)] (by (refine s_o [] rfl rfl rfl z_su rfl q_move z_fp z_ss ?_; exact wpS_nil ⟨rfl, rfl⟩)) z_su ?_; clear z_ex)
  ((repeat refine WpM.seq ?_); have z_ex := True.intro; refine WpM.regPE [] [(0, _), (1, _), (7, _), (8, _)] (by (refine s_o [(0, _)] rfl rfl rfl z_su rfl q_move z_fp z_ss ?_; refine s_o [(6, _)] rfl rfl rfl z_su rfl q_full z_fp z_ss ?_; refine s_o [] rfl rfl rfl z_su rfl q_move z_fp z_ss ?_; exact wpS_nil ⟨rfl, rfl⟩)) z_su ?_; clear z_ex)
  ((repeat refine WpM.seq ?_); refine WpM.block ?_)
  refine WpM.loop (fun (j : Nat) fr S => j ≤ l.length ∧ (∀ i (h : i < l.length), i < j → p l[i] = false) ∧ fr = frOf [(0, .d (.sl (l.map encTxn))), (1, .fn f cs), (7, .d (.int .i64 l.length)), (8, .d (.int .i64 j))] ∧ ∃ nx, S = ⟨nx, [], H⟩) (fun j => l.length - j) 0 (St.Le.refl _) (frLe_frOf (by (simp (maxSteps := 2000000) (disch := omega) [go_sem, -List.map_map]))) ⟨by omega, by simp, rfl, _, rfl⟩ ?_
  rintro j fr S' ⟨hj, hall, rfl, nx, rfl⟩
  ((repeat refine WpM.seq ?_); have z_ex := True.intro; refine WpM.regPE [] [(0, _), (1, _), (7, _), (8, _), (9, _)] (by (refine s_o [(7, _), (8, _)] rfl rfl rfl z_su rfl q_full z_fp z_ss ?_; exact wpS_nil ⟨rfl, rfl⟩)) z_su ?_; clear z_ex)
  by_cases hlt : j < l.length
  · ((repeat refine WpM.seq ?_); refine WpM.condT (by (simp (maxSteps := 2000000) (disch := omega) [go_sem, -List.map_map, hlt])) ?_)
    refine WpM.skip ?_
    ((repeat refine WpM.seq ?_); refine WpM.block ?_)
    have hget : (l.map encTxn)[j]? = some (encTxn l[j]) := by simp [hlt]
    have hcl : V.d (encTxn l[j]) = .d (.agg [.int .i64 l[j].proc, .int .i64 l[j].status, .int .i64 l[j].frm, .int .i64 l[j].to, .sl (l[j].ops.map encOp)]) := rfl
    ((repeat refine WpM.seq ?_); have z_ex := True.intro; refine WpM.regPE [] [(0, _), (1, _), (5, _), (7, _), (8, _)] (by (refine s_o [(8, _)] rfl rfl rfl z_su rfl q_move z_fp z_ss ?_; refine s_o [(10, _)] rfl rfl rfl z_su rfl q_move z_fp z_ss ?_; exact wpS_nil ⟨rfl, rfl⟩)) z_su ?_; clear z_ex)
    ((repeat refine WpM.seq ?_); have z_ex := (And.intro @hget (And.intro @hlt (And.intro @hip (And.intro @encTxn.eq_1 True.intro)))); refine WpM.regPE [] [(0, _), (1, _), (5, _), (7, _), (8, _), (16, _)] (by (refine s_o [(1, _)] rfl rfl rfl z_su rfl q_move z_fp z_ss ?_; refine s_o [(0, _)] rfl rfl rfl z_su rfl q_move z_fp z_ss ?_; refine s_o [(5, _)] rfl rfl rfl z_su rfl q_move z_fp z_ss ?_; refine s_o [(12, _), (13, _)] rfl rfl rfl z_su rfl q_full z_fp z_ss ?_; refine s_o [(14, _)] rfl rfl rfl z_su rfl q_load z_fp z_ss ?_; refine s_at (callOf_eq rfl rfl z_lk (mlk_tmp z_lk mlk_nil)) (hp l[j] (List.getElem_mem _) ⟨_, [], H⟩ (fun m k h => h)) rfl rfl z_ip z_fp ?_; exact wpS_nil ⟨rfl, rfl⟩)) z_su ?_; clear z_ex)
    cases hpj : p l[j] with
    | false =>
      ((repeat refine WpM.seq ?_); refine WpM.condF (by (simp (maxSteps := 2000000) (disch := omega) [go_sem, -List.map_map, hpj])) ?_)
      refine WpM.skip ?_
      ((repeat refine WpM.seq ?_); have z_ex := (And.intro @wrap_id True.intro); refine WpM.regPE [] [(0, _), (1, _), (7, _), (8, _)] (by (refine s_o [(8, _)] rfl rfl rfl z_su rfl q_full z_fp z_ss ?_; refine s_o [(18, _)] rfl rfl rfl z_su rfl q_move z_fp z_ss ?_; exact wpS_nil ⟨rfl, rfl⟩)) z_su ?_; clear z_ex)
      have hall' : ∀ i (h : i < l.length), i < j + 1 → p l[i] = false := fun i h hi => by
        rcases Nat.lt_or_ge i j with h' | h'
        · exact hall i h h'
        · obtain rfl : i = j := by omega
          exact hpj
      exact round_end (x' := j + 1) (St.Le.refl _) (frLe_frOf (by (simp (maxSteps := 2000000) (disch := omega) [go_sem, -List.map_map, wrap_id]))) ⟨by omega, hall', rfl, _, rfl⟩ (by omega)
    | true =>
      ((repeat refine WpM.seq ?_); refine WpM.condT (by (simp (maxSteps := 2000000) (disch := omega) [go_sem, -List.map_map, hpj])) ?_)
      have hfi : l.findIdx? p = some j := by
        rw [List.findIdx?_eq_some_iff_getElem]
        exact ⟨hlt, hpj, fun i hi => by simp [hall i (by omega) hi]⟩
      ((repeat refine WpM.seq ?_); have z_ex := True.intro; refine WpM.regPE [] [(4, _)] (by (refine s_o [(5, _)] rfl rfl rfl z_su rfl q_move z_fp z_ss ?_; refine s_o [(17, _)] rfl rfl rfl z_su rfl q_move z_fp z_ss ?_; exact wpS_nil ⟨rfl, rfl⟩)) z_su ?_; clear z_ex)
      (refine WpM.ret ?_; refine ⟨.inr rfl, Upd.done ?_⟩; (simp (maxSteps := 2000000) (disch := omega) [go_sem, -List.map_map, resV, resVs, resV1, hfi]))
  · ((repeat refine WpM.seq ?_); refine WpM.condF (by (simp (maxSteps := 2000000) (disch := omega) [go_sem, -List.map_map, hlt])) ?_)
    (refine WpM.exit ?_; (repeat (with_reducible (first | refine thenM_exit ?_ | refine blockM_eq ?_ | refine blockM_ne (by decide) ?_))))
    have hfi : l.findIdx? p = none := by
      rw [List.findIdx?_eq_none_iff]
      intro x hx
      obtain ⟨i, hi, rfl⟩ := List.getElem_of_mem hx
      exact hall i hi (by omega)
    ((repeat refine WpM.seq ?_); have z_ex := True.intro; refine WpM.regPE [] [(4, _)] (by (refine s_o [] rfl rfl rfl z_su rfl q_move z_fp z_ss ?_; exact wpS_nil ⟨rfl, rfl⟩)) z_su ?_; clear z_ex)
    (refine WpM.ret ?_; refine ⟨.inr rfl, Upd.done ?_⟩; (simp (maxSteps := 2000000) (disch := omega) [go_sem, -List.map_map, resV, resVs, resV1, hfi]))
theorem containsFunc65 (l : List TxnD) (p : TxnD → Bool) (f : FuncId) (cs : List V) (S : St) (hl : l.length ≤ 140737488351232) (hp : ∀ x ∈ l, ∀ S' : St, (∀ m k, S.get m = some k → S'.get m = some k) → PureS Try.prog f ([.d (encTxn x)] ++ cs) (.d (.bool (p x))) S') (hip : isPlain Try.prog f = true) :
    PureS Try.prog 65 [.d (.sl (l.map encTxn)), .fn f cs] (.d (.bool (l.any p))) S := by
  refine PureS.of (n := 9) Try.func65 rfl rfl (by simp) (by simp only [argL, Nat.reduceAdd] <;> rfl) rfl ?_
  intro n0 H hH0 hH
  rw [hH0] at hp
  ((repeat refine WpM.seq ?_); have z_ex := True.intro; refine WpM.regPE [] [(0, _), (1, _)] (by (refine s_o [] rfl rfl rfl z_su rfl q_move z_fp z_ss ?_; exact wpS_nil ⟨rfl, rfl⟩)) z_su ?_; clear z_ex)
  cases hf : l.findIdx? p with
  | none =>
    have ha : l.any p = false := by
      rw [List.findIdx?_eq_none_iff] at hf
      rw [List.any_eq_false]
      intro x hx
      simp [hf x hx]
    ((repeat refine WpM.seq ?_); have z_ex := (And.intro @hf True.intro); refine WpM.regPE [] [(4, _)] (by (refine s_o [(0, _)] rfl rfl rfl z_su rfl q_move z_fp z_ss ?_; refine s_o [(1, _)] rfl rfl rfl z_su rfl q_move z_fp z_ss ?_; refine s_at (callOf_eq rfl rfl rfl (mlk_tmp z_lk (mlk_tmp z_lk mlk_nil))) (indexFunc71 l p f cs ⟨_, [], H⟩ hl hp hip) rfl rfl z_ip z_fp ?_; refine s_o [(7, _)] rfl rfl rfl z_su rfl q_full z_fp z_ss ?_; refine s_o [(8, _)] rfl rfl rfl z_su rfl q_move z_fp z_ss ?_; exact wpS_nil ⟨rfl, rfl⟩)) z_su ?_; clear z_ex)
    (refine WpM.ret ?_; refine ⟨.inr rfl, Upd.done ?_⟩; (simp (maxSteps := 2000000) (disch := omega) [go_sem, -List.map_map, resV, resVs, resV1, ha]))
  | some i =>
    have ha : l.any p = true := by
      rw [List.findIdx?_eq_some_iff_getElem] at hf
      rw [List.any_eq_true]
      exact ⟨l[i]'hf.1, List.getElem_mem _, hf.2.1⟩
    ((repeat refine WpM.seq ?_); have z_ex := (And.intro @hf True.intro); refine WpM.regPE [] [(4, _)] (by (refine s_o [(0, _)] rfl rfl rfl z_su rfl q_move z_fp z_ss ?_; refine s_o [(1, _)] rfl rfl rfl z_su rfl q_move z_fp z_ss ?_; refine s_at (callOf_eq rfl rfl rfl (mlk_tmp z_lk (mlk_tmp z_lk mlk_nil))) (indexFunc71 l p f cs ⟨_, [], H⟩ hl hp hip) rfl rfl z_ip z_fp ?_; refine s_o [(7, _)] rfl rfl rfl z_su rfl q_full z_fp z_ss ?_; refine s_o [(8, _)] rfl rfl rfl z_su rfl q_move z_fp z_ss ?_; exact wpS_nil ⟨rfl, rfl⟩)) z_su ?_; clear z_ex)
    (refine WpM.ret ?_; refine ⟨.inr rfl, Upd.done ?_⟩; (simp (maxSteps := 2000000) (disch := omega) [go_sem, -List.map_map, resV, resVs, resV1, ha]))
end Go.Proofs.Ytjjmedgibcffhaa
/- The book of keys: one pure model for both sides, and how the ledger of the program holds it. -/
namespace Go.Proofs.Ytjjmedgibcffhaa
open Go.RowKit M
set_option linter.unusedSimpArgs false
set_option linter.unusedVariables false
theorem cutP {P : Program} {n : Nat} {x y : Code} {Q : Exit → Fr → St → Prop} {fr : Fr} {S : St} (Mid : Fr → St → Prop) (h1 : WpM P n x (thenM Mid Q) fr S) (h2 : ∀ fr S, Mid fr S → WpM P n y Q fr S) : WpM P n (.seq x y) Q fr S := by
  refine WpM.seq (h1.mono fun e fr S h => ?_)
  cases e <;> first | exact h2 _ _ h | exact h
theorem wpMid {P : Program} {n : Nat} {x : Code} {K : Fr → St → Prop} {Q : Exit → Fr → St → Prop} {fr : Fr} {S : St} (Mid : Fr → St → Prop) (h1 : WpM P n x (thenM Mid Q) fr S) (h2 : ∀ fr S, Mid fr S → K fr S) : WpM P n x (thenM K Q) fr S := by
  refine h1.mono fun e fr S h => ?_
  cases e <;> first | exact h2 _ _ h | exact h
structure Bk where
  keys : List ByteArray
  types : List Int
  wrote : List (List Int)
  incs : List (List Int)
def Bk.empty : Bk := ⟨[], [], [], []⟩
structure Bk.Wf (b : Bk) (n : Nat) : Prop where
  keys : b.keys.length ≤ 32
  types : b.types.length = b.keys.length
  wrote : b.wrote.length = b.keys.length
  incs : b.incs.length = b.keys.length
  wlen : ∀ k, (b.wrote.getD k []).length ≤ n
  ilen : ∀ k, (b.incs.getD k []).length ≤ 8
def Bk.push (b : Bk) (c : CallD) : Bk := ⟨b.keys ++ [c.key], b.types ++ [tyOf c.kind], b.wrote ++ [[]], b.incs ++ [[]]⟩
def addB (b : Bk) (c : CallD) : Option (Bk × Nat) := match findN b.keys c.key with
  | some k => some (b, k)
  | none => if b.keys.length = 32 then none else some (b.push c, b.keys.length)
def incNext (l : List Int) (who : Int) : List Int := if l.getLast? = some who then l else l ++ [who]
def putB (b : Bk) (k : Nat) (c : CallD) (who : Int) : Except Int Bk :=
  if b.types.getD k 0 ≠ tyOf c.kind then .error 50
  else if c.kind = 2 ∨ c.kind = 3 then
    if c.arg ∈ b.wrote.getD k [] then .error 3 else .ok { b with wrote := b.wrote.set k (b.wrote.getD k [] ++ [c.arg]) }
  else if c.kind = 4 then
    if 8 < (incNext (b.incs.getD k []) who).length then .error 51 else .ok { b with incs := b.incs.set k (incNext (b.incs.getD k []) who) }
  else .ok b
/-- A call is entered: the new book, or an error. -/
def enterB (b : Bk) (c : CallD) (who : Int) : Except Int Bk := match addB b c with
  | none => .error 2
  | some (b, k) => putB b k c who
theorem Bk.Wf.empty : Bk.empty.Wf 0 := ⟨by simp [Bk.empty], rfl, rfl, rfl, by simp [Bk.empty], by simp [Bk.empty]⟩
theorem getD_push {α : Type} (l : List α) (d : α) (k : Nat) : (l ++ [d]).getD k d = l.getD k d := by
  simp only [List.getD_eq_getElem?_getD, List.getElem?_append]
  by_cases h : k < l.length
  · simp [h]
  · rw [if_neg h, List.getElem?_eq_none (by omega : l.length ≤ k)]
    cases k - l.length <;> simp
theorem Bk.Wf.push {b : Bk} {n : Nat} (h : b.Wf n) (c : CallD) (hl : b.keys.length ≠ 32) : (b.push c).Wf n := by
  obtain ⟨h1, h2, h3, h4, h5, h6⟩ := h
  refine ⟨by simp [Bk.push]; omega, by simp [Bk.push, h2], by simp [Bk.push, h3], by simp [Bk.push, h4], fun k => ?_, fun k => ?_⟩
  · rw [Bk.push]; simp only [getD_push]; exact h5 k
  · rw [Bk.push]; simp only [getD_push]; exact h6 k
theorem addB_wf {b b' : Bk} {n k : Nat} {c : CallD} (h : b.Wf n) (e : addB b c = some (b', k)) : b'.Wf n ∧ findN b'.keys c.key = some k := by
  unfold addB at e
  split at e
  · rename_i j hj
    injection e with e
    injection e with e1 e2
    subst e1 e2
    exact ⟨h, hj⟩
  · rename_i hj
    split at e
    · cases e
    · rename_i hl
      injection e with e
      injection e with e1 e2
      subst e1 e2
      refine ⟨h.push c hl, ?_⟩
      refine findN_hit _ _ _ (by simp [Bk.push]) (fun i hi hlt => ?_) (by simp [Bk.push])
      intro he
      have : c.key ∈ b.keys := by
        rw [← he]
        simp only [Bk.push]
        rw [List.getElem_append_left hlt]
        exact List.getElem_mem _
      obtain ⟨j, hj'⟩ := findN_mem.1 this
      rw [hj] at hj'
      cases hj'
theorem getD_set {α : Type} (l : List α) (k j : Nat) (x d : α) : (l.set k x).getD j d = if j = k ∧ k < l.length then x else l.getD j d := by
  simp only [List.getD_eq_getElem?_getD, List.getElem?_set]
  by_cases h : k = j
  · subst h
    by_cases hl : k < l.length
    · simp [hl]
    · simp [hl]
  · rw [if_neg h, if_neg (fun e => h e.1.symm)]
theorem putB_wf {b b' : Bk} {n k : Nat} {c : CallD} {who : Int} (h : b.Wf n) (e : putB b k c who = .ok b') : b'.Wf (n + 1) ∧ b'.keys = b.keys := by
  obtain ⟨h1, h2, h3, h4, h5, h6⟩ := h
  have h5' : ∀ k, (b.wrote.getD k []).length ≤ n + 1 := fun k => Nat.le_succ_of_le (h5 k)
  unfold putB at e
  split at e
  · cases e
  · split at e
    · split at e
      · cases e
      · injection e with e
        subst e
        refine ⟨⟨h1, h2, by simp [h3], h4, fun j => ?_, h6⟩, rfl⟩
        simp only [getD_set]
        split
        · have := h5 k; simp only [List.length_append, List.length_singleton]; omega
        · exact h5' j
    · split at e
      · split at e
        · cases e
        · rename_i hl
          injection e with e
          subst e
          refine ⟨⟨h1, h2, h3, by simp [h4], h5', fun j => ?_⟩, rfl⟩
          simp only [getD_set]
          split
          · omega
          · exact h6 j
      · injection e with e
        subst e
        exact ⟨⟨h1, h2, h3, h4, h5', h6⟩, rfl⟩
theorem enterB_wf {b b' : Bk} {n : Nat} {c : CallD} {who : Int} (h : b.Wf n) (e : enterB b c who = .ok b') : b'.Wf (n + 1) := by
  unfold enterB at e
  cases ha : addB b c with
  | none => rw [ha] at e; cases e
  | some p =>
    rw [ha] at e
    exact (putB_wf (addB_wf h ha).1 e).1
/-- Was this number put on this key? -/
def factB (b : Bk) (s : ByteArray) (i : Int) : Bool := match findN b.keys s with | some k => decide (i ∈ b.wrote.getD k []) | none => false
/-- Who counted on this key. -/
def incB (b : Bk) (s : ByteArray) : List Int := match findN b.keys s with | some k => b.incs.getD k [] | none => []
theorem findN_push {l : List ByteArray} {s s' : ByteArray} (h : findN l s = none) : findN (l ++ [s]) s' = if s' = s then some l.length else findN l s' := by
  induction l with
  | nil =>
    by_cases e : s' = s
    · subst e; simp [findN]
    · have e' : ¬ s = s' := fun h => e h.symm
      rw [if_neg e]; simp [findN, e']
  | cons a r ih =>
    unfold findN at h
    split at h
    · cases h
    · rename_i hne
      simp only [Option.map_eq_none_iff] at h
      have ih := ih h
      simp only [List.cons_append]
      rw [findN, ih]
      by_cases e : s' = s
      · subst e
        rw [if_neg hne, if_pos rfl, if_pos rfl]
        rfl
      · rw [if_neg e, if_neg e]
        conv => rhs; rw [findN]
theorem getD_len {α : Type} (l : List α) (d : α) : l.getD l.length d = d := by
  rw [List.getD_eq_getElem?_getD, List.getElem?_eq_none (Nat.le_refl _)]
  rfl
theorem factB_push {b : Bk} {n : Nat} {c : CallD} (hw : b.Wf n) (h : findN b.keys c.key = none) (s : ByteArray) (i : Int) : factB (b.push c) s i = factB b s i := by
  unfold factB
  simp only [Bk.push, findN_push h, getD_push]
  by_cases e : s = c.key
  · subst e
    rw [if_pos rfl, h]
    simp only [← hw.wrote, getD_len]
    simp
  · rw [if_neg e]
theorem incB_push {b : Bk} {n : Nat} {c : CallD} (hw : b.Wf n) (h : findN b.keys c.key = none) (s : ByteArray) : incB (b.push c) s = incB b s := by
  unfold incB
  simp only [Bk.push, findN_push h, getD_push]
  by_cases e : s = c.key
  · subst e
    rw [if_pos rfl, h]
    simp only [← hw.incs, getD_len]
  · rw [if_neg e]
theorem findN_inj {l : List ByteArray} {s s' : ByteArray} {k : Nat} (h : findN l s = some k) (h' : findN l s' = some k) : s = s' := by
  obtain ⟨_, e, _⟩ := findN_some h
  obtain ⟨_, e', _⟩ := findN_some h'
  rw [← e, ← e']
theorem findN_lt {l : List ByteArray} {s : ByteArray} {k : Nat} (h : findN l s = some k) : k < l.length := (findN_some h).1
theorem factB_set {b : Bk} {n k : Nat} {key : ByteArray} {x : Int} (hw : b.Wf n) (h : findN b.keys key = some k) (s : ByteArray) (i : Int) :
    factB { b with wrote := b.wrote.set k (b.wrote.getD k [] ++ [x]) } s i = if s = key ∧ i = x then true else factB b s i := by
  unfold factB
  simp only [getD_set]
  have hk := findN_lt h
  rw [← hw.wrote] at hk
  by_cases e : s = key
  · subst e
    rw [h]
    simp only [hk, and_self, if_true, List.mem_append, List.mem_singleton, true_and]
    by_cases e2 : i = x
    · simp [e2]
    · simp [e2]
  · simp only [e, false_and, if_false]
    cases hf : findN b.keys s with
    | none => rfl
    | some j =>
      have : j ≠ k := fun e' => e (findN_inj hf (e' ▸ h))
      simp only [this, false_and, if_false]
theorem incB_set {b : Bk} {n k : Nat} {key : ByteArray} {l : List Int} (hw : b.Wf n) (h : findN b.keys key = some k) (s : ByteArray) :
    incB { b with incs := b.incs.set k l } s = if s = key then l else incB b s := by
  unfold incB
  simp only [getD_set]
  have hk := findN_lt h
  rw [← hw.incs] at hk
  by_cases e : s = key
  · subst e
    rw [h]
    simp only [hk, and_self, if_true]
  · simp only [e, if_false]
    cases hf : findN b.keys s with
    | none => rfl
    | some j =>
      have : j ≠ k := fun e' => e (findN_inj hf (e' ▸ h))
      simp only [this, false_and, if_false]
/-- The ledger L holds the book b, by its names; O: the names it owns. -/
structure LedN (G : Nat → Option Blk) (L nk na nt nf ni : Nat) (am fm im : D → Option V) (r : ByteArray → Nat) (b : Bk) (O : Nat → Prop) : Prop where
  box : G L = some (.box [.ms nk 1 0 b.keys.length, .map na, .ms nt 1 0 b.types.length, .map nf, .map ni])
  keys : G nk = some (.row 1 (b.keys.map fun s => .d (.str s)))
  types : G nt = some (.row 1 (b.types.map fun t => .d (.int .i64 t)))
  gat : G na = some (.map .str am)
  gfact : G nf = some (.map (.pair .i64) fm)
  ginc : G ni = some (.map .str im)
  at_ : ∀ s, am (.str s) = (findN b.keys s).map fun k => .d (.int .i64 k)
  fact : ∀ s i, fm (.agg [.str s, .int .i64 i]) = if factB b s i then some (.d (.agg [])) else none
  inc0 : ∀ s, incB b s = [] → im (.str s) = none
  inc1 : ∀ s, incB b s ≠ [] → im (.str s) = some (.ms (r s) 1 0 (incB b s).length) ∧ G (r s) = some (.row 1 ((incB b s).map fun t => .d (.int .i64 t))) ∧ O (r s) ∧ r s ≠ nk ∧ r s ≠ nt
  rinj : ∀ s s', incB b s ≠ [] → incB b s' ≠ [] → r s = r s' → s = s'
  oL : O L
  ok : O nk
  oa : O na
  ot : O nt
  of_ : O nf
  oi : O ni
  hkt : nk ≠ nt
  hai : na ≠ ni
def LedAt (G : Nat → Option Blk) (L : Nat) (b : Bk) (O : Nat → Prop) : Prop := ∃ nk na nt nf ni am fm im r, LedN G L nk na nt nf ni am fm im r b O
theorem LedAt.same {G G' : Nat → Option Blk} {L : Nat} {b : Bk} {O : Nat → Prop} (h : LedAt G L b O) (hs : ∀ m k, O m → G m = some k → G' m = some k) : LedAt G' L b O := by
  obtain ⟨nk, na, nt, nf, ni, am, fm, im, r, h⟩ := h
  exact ⟨nk, na, nt, nf, ni, am, fm, im, r, hs _ _ h.oL h.box, hs _ _ h.ok h.keys, hs _ _ h.ot h.types, hs _ _ h.oa h.gat, hs _ _ h.of_ h.gfact, hs _ _ h.oi h.ginc, h.at_, h.fact, h.inc0,
    fun s hn => ⟨(h.inc1 s hn).1, hs _ _ (h.inc1 s hn).2.2.1 (h.inc1 s hn).2.1, (h.inc1 s hn).2.2⟩, h.rinj, h.oL, h.ok, h.oa, h.ot, h.of_, h.oi, h.hkt, h.hai⟩
/-- What kinds of blocks are told apart. -/
theorem LedN.ne {G : Nat → Option Blk} {L nk na nt nf ni : Nat} {am fm im : D → Option V} {r : ByteArray → Nat} {b : Bk} {O : Nat → Prop} (h : LedN G L nk na nt nf ni am fm im r b O) :
    L ≠ nk ∧ L ≠ na ∧ L ≠ nt ∧ L ≠ nf ∧ L ≠ ni ∧ nk ≠ na ∧ nk ≠ nf ∧ nk ≠ ni ∧ nt ≠ na ∧ nt ≠ nf ∧ nt ≠ ni ∧ na ≠ nf ∧ nf ≠ ni ∧ ∀ s, incB b s ≠ [] → r s ≠ L ∧ r s ≠ na ∧ r s ≠ nf ∧ r s ≠ ni := by
  have k1 := h.box
  have k2 := h.keys
  have k3 := h.types
  have k4 := h.gat
  have k5 := h.gfact
  have k6 := h.ginc
  refine ⟨?_, ?_, ?_, ?_, ?_, ?_, ?_, ?_, ?_, ?_, ?_, ?_, ?_, fun s hs => ?_⟩
  · rintro rfl; rw [k1] at k2; cases k2
  · rintro rfl; rw [k1] at k4; cases k4
  · rintro rfl; rw [k1] at k3; cases k3
  · rintro rfl; rw [k1] at k5; cases k5
  · rintro rfl; rw [k1] at k6; cases k6
  · rintro rfl; rw [k2] at k4; cases k4
  · rintro rfl; rw [k2] at k5; cases k5
  · rintro rfl; rw [k2] at k6; cases k6
  · rintro rfl; rw [k3] at k4; cases k4
  · rintro rfl; rw [k3] at k5; cases k5
  · rintro rfl; rw [k3] at k6; cases k6
  · rintro rfl; rw [k4] at k5; cases k5
  · rintro rfl; rw [k5] at k6; cases k6
  · obtain ⟨_, hr, _⟩ := h.inc1 s hs
    refine ⟨?_, ?_, ?_, ?_⟩ <;> intro e <;> rw [e] at hr
    · rw [k1] at hr; cases hr
    · rw [k4] at hr; cases hr
    · rw [k5] at hr; cases hr
    · rw [k6] at hr; cases hr
theorem updD_same {m : D → Option V} {k : D} {v : Option V} : updD m k v k = v := by simp [updD]
theorem set_self {α : Type} (l : List α) (k : Nat) (d : α) : l.set k (l.getD k d) = l := by
  apply List.ext_getElem?
  intro i
  rw [List.getElem?_set]
  by_cases h : k = i
  · subst h
    by_cases hl : k < l.length
    · simp [hl]
    · simp [hl]
  · rw [if_neg h]
section
variable {G G' : Nat → Option Blk} {L nk na nt nf ni : Nat} {am fm im : D → Option V} {r : ByteArray → Nat} {b : Bk} {O : Nat → Prop}
/-- A new key. -/
theorem LedN.push {n nk' nt' : Nat} {c : CallD} (h : LedN G L nk na nt nf ni am fm im r b O) (hw : b.Wf n) (hn : findN b.keys c.key = none) (h1 : ¬ O nk') (h2 : ¬ O nt') (h3 : nk' ≠ nt')
    (e1 : G' L = some (.box [.ms nk' 1 0 (b.keys.length + 1), .map na, .ms nt' 1 0 (b.types.length + 1), .map nf, .map ni]))
    (e2 : G' nk' = some (.row 1 ((b.keys.map fun s => .d (.str s)) ++ [.d (.str c.key)]))) (e3 : G' nt' = some (.row 1 ((b.types.map fun s => .d (.int .i64 s)) ++ [.d (.int .i64 (tyOf c.kind))])))
    (e4 : G' na = some (.map .str (updD am (.str c.key) (some (.d (.int .i64 b.keys.length))))))
    (old : ∀ m k, m ≠ L → m ≠ nk → m ≠ nt → m ≠ na → O m → G m = some k → G' m = some k) : LedAt G' L (b.push c) (fun m => O m ∨ m = nk' ∨ m = nt') := by
  obtain ⟨q1, q2, q3, q4, q5, q6, q7, q8, q9, q10, q11, q12, q13, q14⟩ := h.ne
  refine ⟨nk', na, nt', nf, ni, _, fm, im, r, by rw [e1]; simp [Bk.push], by rw [e2]; simp [Bk.push], by rw [e3]; simp [Bk.push], e4, ?_, ?_, fun s => ?_, fun s i => ?_, fun s hs => ?_, fun s hs => ?_, fun s s' hs hs' => ?_, .inl h.oL, .inr (.inl rfl), .inl h.oa, .inr (.inr rfl), .inl h.of_, .inl h.oi, h3, h.hai⟩
  · exact old _ _ (Ne.symm q4) (Ne.symm q7) (Ne.symm q10) (Ne.symm q12) h.of_ h.gfact
  · exact old _ _ (Ne.symm q5) (Ne.symm q8) (Ne.symm q11) (Ne.symm h.hai) h.oi h.ginc
  · simp only [updD, D.str.injEq, Bk.push, findN_push hn]
    by_cases e : s = c.key
    · simp [e]
    · simp only [if_neg e]; exact h.at_ s
  · rw [factB_push hw hn]; exact h.fact s i
  · rw [incB_push hw hn] at hs; exact h.inc0 s hs
  · rw [incB_push hw hn] at hs ⊢
    obtain ⟨a1, a2, a3, a4, a5⟩ := h.inc1 s hs
    obtain ⟨b1, b2, b3, b4⟩ := q14 s hs
    exact ⟨a1, old _ _ b1 a4 a5 b2 a3 a2, .inl a3, fun e => h1 (e ▸ a3), fun e => h2 (e ▸ a3)⟩
  · rw [incB_push hw hn] at hs hs'; exact h.rinj s s' hs hs'
/-- A number more on a key. -/
theorem LedN.wrote {n k : Nat} {key : ByteArray} {x : Int} (h : LedN G L nk na nt nf ni am fm im r b O) (hw : b.Wf n) (hf : findN b.keys key = some k)
    (e1 : G' nf = some (.map (.pair .i64) (updD fm (.agg [.str key, .int .i64 x]) (some (.d (.agg [])))))) (old : ∀ m k, m ≠ nf → O m → G m = some k → G' m = some k) :
    LedAt G' L { b with wrote := b.wrote.set k (b.wrote.getD k [] ++ [x]) } O := by
  obtain ⟨q1, q2, q3, q4, q5, q6, q7, q8, q9, q10, q11, q12, q13, q14⟩ := h.ne
  refine ⟨nk, na, nt, nf, ni, am, _, im, r, old _ _ q4 h.oL h.box, old _ _ q7 h.ok h.keys, old _ _ q10 h.ot h.types, old _ _ q12 h.oa h.gat, e1, old _ _ (Ne.symm q13) h.oi h.ginc, h.at_, fun s i => ?_, h.inc0, fun s hs => ?_, h.rinj, h.oL, h.ok, h.oa, h.ot, h.of_, h.oi, h.hkt, h.hai⟩
  · rw [factB_set hw hf]
    simp only [updD, D.agg.injEq, List.cons.injEq, D.str.injEq, D.int.injEq, true_and, and_true]
    by_cases e : s = key ∧ i = x
    · simp [e]
    · simp only [if_neg e]; exact h.fact s i
  · obtain ⟨a1, a2, a3, a4, a5⟩ := h.inc1 s hs
    exact ⟨a1, old _ _ (q14 s hs).2.2.1 a3 a2, a3, a4, a5⟩
/-- One more that counts on a key. -/
theorem LedN.inc {n k nr : Nat} {key : ByteArray} {x : Int} (h : LedN G L nk na nt nf ni am fm im r b O) (hw : b.Wf n) (hf : findN b.keys key = some k) (hnr : ¬ O nr)
    (e1 : G' ni = some (.map .str (updD im (.str key) (some (.ms nr 1 0 ((b.incs.getD k []).length + 1)))))) (e2 : G' nr = some (.row 1 (((b.incs.getD k []).map fun t => .d (.int .i64 t)) ++ [.d (.int .i64 x)])))
    (old : ∀ m k, m ≠ ni → (incB b key ≠ [] → m ≠ r key) → O m → G m = some k → G' m = some k) :
    LedAt G' L { b with incs := b.incs.set k (b.incs.getD k [] ++ [x]) } (fun m => O m ∨ m = nr) := by
  obtain ⟨q1, q2, q3, q4, q5, q6, q7, q8, q9, q10, q11, q12, q13, q14⟩ := h.ne
  have hik : incB b key = b.incs.getD k [] := by rw [incB, hf]
  have hset := fun s => incB_set (l := b.incs.getD k [] ++ [x]) hw hf s
  refine ⟨nk, na, nt, nf, ni, am, fm, _, fun s => open Classical in if s = key then nr else r s, ?_, ?_, ?_, ?_, ?_, e1, h.at_, h.fact, fun s hs => ?_, fun s hs => ?_, fun s s' hs hs' => ?_, .inl h.oL, .inl h.ok, .inl h.oa, .inl h.ot, .inl h.of_, .inl h.oi, h.hkt, h.hai⟩
  · exact old _ _ q5 (fun hs e => (q14 _ hs).1 e.symm) h.oL h.box
  · exact old _ _ q8 (fun hs e => (h.inc1 _ hs).2.2.2.1 e.symm) h.ok h.keys
  · exact old _ _ q11 (fun hs e => (h.inc1 _ hs).2.2.2.2 e.symm) h.ot h.types
  · exact old _ _ h.hai (fun hs e => (q14 _ hs).2.1 e.symm) h.oa h.gat
  · exact old _ _ q13 (fun hs e => (q14 _ hs).2.2.1 e.symm) h.of_ h.gfact
  · rw [hset] at hs
    by_cases e : s = key
    · rw [if_pos e] at hs; simp at hs
    · rw [if_neg e] at hs
      simp only [updD, D.str.injEq, if_neg e]
      exact h.inc0 s hs
  · rw [hset] at hs ⊢
    by_cases e : s = key
    · simp only [if_pos e, updD, e, if_true]
      exact ⟨by simp, by rw [e2]; simp, by simp, fun e => hnr (e ▸ h.ok), fun e => hnr (e ▸ h.ot)⟩
    · rw [if_neg e] at hs
      simp only [if_neg e, updD, D.str.injEq]
      obtain ⟨a1, a2, a3, a4, a5⟩ := h.inc1 s hs
      exact ⟨a1, old _ _ (q14 s hs).2.2.2 (fun hk e' => e (h.rinj _ _ hs hk e')) a3 a2, .inl a3, a4, a5⟩
  · rw [hset] at hs hs'
    by_cases e : s = key
    · by_cases e' : s' = key
      · intro _; rw [e, e']
      · rw [if_neg e'] at hs'
        simp only [if_pos e, if_neg e']
        intro he
        exact absurd (h.inc1 s' hs').2.2.1 (he ▸ hnr)
    · rw [if_neg e] at hs
      by_cases e' : s' = key
      · simp only [if_pos e', if_neg e]
        intro he
        exact absurd (h.inc1 s hs).2.2.1 (he ▸ hnr)
      · rw [if_neg e'] at hs'
        simp only [if_neg e', if_neg e]
        exact h.rinj s s' hs hs'
end
end Go.Proofs.Ytjjmedgibcffhaa
