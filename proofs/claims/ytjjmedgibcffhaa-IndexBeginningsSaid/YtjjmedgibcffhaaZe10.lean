/- Part 10 of the texts that stand behind this law. -/
import Derived.Test.YtjjmedgibcffhaaZe9
/- What a transaction wrote, both ways. -/
namespace Go.Proofs.Ytjjmedgibcffhaa
open Go.RowKit M
set_option linter.unusedSimpArgs false
set_option linter.unusedVariables false
def wrP (key : Int) (o : OpD) : Bool := decide (o.key = key) && decide (o.kind ≤ 4)
def wroteL (ops : List OpD) (key : Int) : List Int := (ops.filter (wrP key)).map (·.arg)
theorem wroteL_step {ops : List OpD} {key : Int} {j : Nat} (h : j < ops.length) : wroteL (ops.take (j + 1)) key = wroteL (ops.take j) key ++ if wrP key ops[j] then [ops[j].arg] else [] := by
  rw [List.take_succ_eq_append_getElem h, wroteL, List.filter_append, List.map_append]
  congr 1
  by_cases hp : wrP key ops[j] = true
  · simp [hp]
  · simp [hp]
theorem wroteL_len (ops : List OpD) (key : Int) : (wroteL ops key).length ≤ ops.length := by
  simpa [wroteL] using List.length_filter_le _ _
def intV (l : List Int) : List V := l.map fun x => .d (.int .i64 x)
set_option maxHeartbeats 8000000 in
theorem wrote58 (t : TxnD) (hb : TxnB t) (key : Int) : PureC Try.prog 58 [.d (encTxn t), .d (.int .i64 key)] (.d (ints (wroteL t.ops key))) := by
  refine PureC.of (n := 31) Try.func58 rfl rfl (by simp) (by simp only [argL, Nat.reduceAdd] <;> rfl) rfl ?_
  intro n0 H hH
  have hlen := hb.len
  ((repeat refine WpM.seq ?_); have z_ex := (And.intro @encTxn.eq_1 True.intro); refine WpM.regPE [] [(1, _), (2, _)] (by (refine s_o [(0, _)] rfl rfl rfl z_su rfl q_box z_fp z_ss ?_; refine s_o [] rfl rfl rfl z_su rfl q_move z_fp z_ss ?_; exact wpS_nil ⟨rfl, rfl⟩)) z_su ?_; clear z_ex)
  ((repeat refine WpM.seq ?_); have z_ex := True.intro; refine WpM.regPE [] [(1, _), (2, _), (5, _)] (by (refine s_o [] rfl rfl rfl z_su rfl q_move z_fp z_ss ?_; exact wpS_nil ⟨rfl, rfl⟩)) z_su ?_; clear z_ex)
  refine Upd.wp (Upd.ghost 5 1 (.inl (by (simp (maxSteps := 2000000) (disch := omega) [go_sem, -List.map_map]))) (Upd.done ?_))
  refine WpM.less (le_cut (n0 := n0) (n' := n0 + 4) (l' := [(n0, some (.box [.d (.int .i64 t.proc), .d (.int .i64 t.status), .d (.int .i64 t.frm), .d (.int .i64 t.to), .d (.sl (t.ops.map encOp))])), (n0 + 3, some (.row 1 []))]) hH (by (simp (maxSteps := 2000000) (disch := omega) [go_sem, -List.map_map])) (Nat.le_refl _) (by (simp (maxSteps := 2000000) (disch := omega) [go_sem, -List.map_map, encTxn]))) (frLe_frOf (l := [(1, .d (.int .i64 key)), (2, .ptr n0 0), (5, .ms (n0 + 3) 1 0 0)]) (by (simp (maxSteps := 2000000) (disch := omega) [go_sem, -List.map_map]))) ?_
  ((repeat refine WpM.seq ?_); have z_ex := True.intro; refine WpM.regPE [] [(1, _), (5, _), (9, _), (10, _), (11, _)] (by (refine s_o [(2, _)] rfl rfl rfl z_su rfl q_fieldAddr z_fp z_ss ?_; refine s_o [(8, _)] rfl rfl rfl z_su rfl q_load z_fp z_ss ?_; refine s_o [(9, _)] rfl rfl rfl z_su rfl q_full z_fp z_ss ?_; refine s_o [] rfl rfl rfl z_su rfl q_move z_fp z_ss ?_; exact wpS_nil ⟨rfl, rfl⟩)) z_su ?_; clear z_ex)
  ((repeat refine WpM.seq ?_); refine WpM.block ?_)
  refine WpM.loop (fun (j : Nat) fr S => j ≤ t.ops.length ∧ ∃ nx nr ys, n0 ≤ nr ∧ nr < nx ∧ ys = intV (wroteL (t.ops.take j) key) ∧ fr = frOf [(1, .d (.int .i64 key)), (5, .ms nr 1 0 ys.length), (9, .d (.sl (t.ops.map encOp))), (10, .d (.int .i64 t.ops.length)), (11, .d (.int .i64 j))] ∧ S = ⟨nx, [(nr, some (.row 1 ys))], H⟩) (fun j => t.ops.length - j) 0 (le_cut (n0 := n0) (n' := n0 + 8) (l' := [(n0 + 3, some (.row 1 []))]) hH (by (simp (maxSteps := 2000000) (disch := omega) [go_sem, -List.map_map])) (Nat.le_refl _) (by (simp (maxSteps := 2000000) (disch := omega) [go_sem, -List.map_map]))) (Sub.le z_su) ⟨by omega, n0 + 8, n0 + 3, [], by omega, by omega, rfl, rfl, rfl⟩ ?_
  rintro j fr S' ⟨hj, nx, nr, ys, hnr, hnx, hys, rfl, rfl⟩
  have hyl : ys.length ≤ j := by have := wroteL_len (t.ops.take j) key; rw [hys, intV, List.length_map]; simp at this; omega
  ((repeat refine WpM.seq ?_); have z_ex := True.intro; refine WpM.regPE [] [(1, _), (5, _), (9, _), (10, _), (11, _), (12, _)] (by (refine s_o [(10, _), (11, _)] rfl rfl rfl z_su rfl q_full z_fp z_ss ?_; exact wpS_nil ⟨rfl, rfl⟩)) z_su ?_; clear z_ex)
  by_cases hlt : j < t.ops.length
  · ((repeat refine WpM.seq ?_); refine WpM.condT (by (simp (maxSteps := 2000000) (disch := omega) [go_sem, -List.map_map, hlt])) ?_)
    refine WpM.skip ?_
    ((repeat refine WpM.seq ?_); refine WpM.block ?_)
    obtain ⟨o, ho⟩ : ∃ o, o = t.ops[j] := ⟨_, rfl⟩
    have hget : (t.ops.map encOp)[j]? = some (encOp o) := by simp [hlt, ho]
    have hstep := wroteL_step (key := key) hlt
    rw [← ho] at hstep
    ((repeat refine WpM.seq ?_); have z_ex := (And.intro @hget (And.intro @encOp.eq_1 True.intro)); refine WpM.regPE [] [(1, _), (5, _), (7, _), (9, _), (10, _), (11, _)] (by (refine s_o [(9, _), (11, _)] rfl rfl rfl z_su rfl q_full z_fp z_ss ?_; refine s_o [(13, _)] rfl rfl rfl z_su rfl q_load z_fp z_ss ?_; refine s_o [] rfl rfl rfl z_su rfl q_alloc z_fp z_ss ?_; refine s_o [(7, _), (14, _)] rfl rfl rfl z_su rfl q_store z_fp z_ss ?_; exact wpS_nil ⟨rfl, rfl⟩)) z_su ?_; clear z_ex)
    have no : wrP key o = false → ys = intV (wroteL (t.ops.take (j + 1)) key) := fun hp => by rw [hstep, hp, hys]; simp [intV]
    by_cases h1 : o.key = key
    · by_cases h2 : o.kind ≤ 4
      · have hp : wrP key o = true := by simp [wrP, h1, h2]
        have hys' : ys ++ [V.d (.int .i64 o.arg)] = intV (wroteL (t.ops.take (j + 1)) key) := by rw [hstep, hp, hys]; simp [intV]
        ((repeat refine WpM.seq ?_); have z_ex := (And.intro @h1 (And.intro @h2 True.intro)); refine WpM.regPE [] [(1, _), (5, _), (7, _), (9, _), (10, _), (11, _), (23, _)] (by (refine s_o [(7, _)] rfl rfl rfl z_su rfl q_fieldAddr z_fp z_ss ?_; refine s_o [(15, _)] rfl rfl rfl z_su rfl q_load z_fp z_ss ?_; refine s_o [(1, _)] rfl rfl rfl z_su rfl q_move z_fp z_ss ?_; refine s_o [(16, _), (17, _)] rfl rfl rfl z_su rfl q_full z_fp z_ss ?_; refine s_o [(18, _)] rfl rfl rfl z_su rfl q_move z_fp z_ss ?_; refine s_wit ?_; intro z_g; (first | refine s_skip rfl z_g z_fp ?_ | (refine s_o [(7, _)] rfl z_g rfl z_su rfl q_fieldAddr z_fp z_ss ?_)); clear z_g; refine s_wit ?_; intro z_g; (first | refine s_skip rfl z_g z_fp ?_ | (refine s_o [(20, _)] rfl z_g rfl z_su rfl q_load z_fp z_ss ?_)); clear z_g; refine s_wit ?_; intro z_g; (first | refine s_skip rfl z_g z_fp ?_ | (refine s_o [(21, _)] rfl z_g rfl z_su rfl q_full z_fp z_ss ?_)); clear z_g; refine s_o [(19, _), (22, _)] rfl rfl rfl z_su rfl q_move z_fp z_ss ?_; exact wpS_nil ⟨rfl, rfl⟩)) z_su ?_; clear z_ex)
        ((repeat refine WpM.seq ?_); refine WpM.condT (by (simp (maxSteps := 2000000) (disch := omega) [go_sem, -List.map_map, h1, h2])) ?_)
        ((repeat refine WpM.seq ?_); have z_ex := True.intro; refine WpM.regPE [] [(1, _), (5, _), (9, _), (10, _), (11, _)] (by (refine s_o [(5, _)] rfl rfl rfl z_su rfl q_move z_fp z_ss ?_; refine s_o [(7, _)] rfl rfl rfl z_su rfl q_fieldAddr z_fp z_ss ?_; refine s_o [(25, _)] rfl rfl rfl z_su rfl q_load z_fp z_ss ?_; refine s_o [(26, _)] rfl rfl rfl z_su rfl q_full z_fp z_ss ?_; refine s_o [(24, _), (27, _)] rfl rfl rfl z_su rfl q_full z_fp z_ss ?_; refine s_o [(28, _)] rfl rfl rfl z_su rfl q_move z_fp z_ss ?_; exact wpS_nil ⟨rfl, rfl⟩)) z_su ?_; clear z_ex)
        ((repeat refine WpM.seq ?_); have z_ex := (And.intro @wrap_id True.intro); refine WpM.regPE [] [(1, _), (5, _), (9, _), (10, _), (11, _)] (by (refine s_o [(11, _)] rfl rfl rfl z_su rfl q_full z_fp z_ss ?_; refine s_o [(29, _)] rfl rfl rfl z_su rfl q_move z_fp z_ss ?_; exact wpS_nil ⟨rfl, rfl⟩)) z_su ?_; clear z_ex)
        exact round_end (x' := j + 1) (le_cut (n0 := n0) (l' := [(nx + 18, some (.row 1 (ys ++ [V.d (.int .i64 o.arg)])))]) hH (by (simp (maxSteps := 2000000) (disch := omega) [go_sem, -List.map_map]); omega) (Nat.le_refl _) (by (simp (maxSteps := 2000000) (disch := omega) [go_sem, -List.map_map]))) (frLe_frOf (by (simp (maxSteps := 2000000) (disch := omega) [go_sem, -List.map_map, wrap_id]))) ⟨by omega, nx + 22, nx + 18, _, by omega, by omega, hys', rfl, by (simp (maxSteps := 2000000) (disch := omega) [go_sem, -List.map_map])⟩ (by omega)
      · have hp : wrP key o = false := by simp [wrP, h2]
        ((repeat refine WpM.seq ?_); have z_ex := (And.intro @h1 (And.intro @h2 True.intro)); refine WpM.regPE [] [(1, _), (5, _), (7, _), (9, _), (10, _), (11, _), (23, _)] (by (refine s_o [(7, _)] rfl rfl rfl z_su rfl q_fieldAddr z_fp z_ss ?_; refine s_o [(15, _)] rfl rfl rfl z_su rfl q_load z_fp z_ss ?_; refine s_o [(1, _)] rfl rfl rfl z_su rfl q_move z_fp z_ss ?_; refine s_o [(16, _), (17, _)] rfl rfl rfl z_su rfl q_full z_fp z_ss ?_; refine s_o [(18, _)] rfl rfl rfl z_su rfl q_move z_fp z_ss ?_; refine s_wit ?_; intro z_g; (first | refine s_skip rfl z_g z_fp ?_ | (refine s_o [(7, _)] rfl z_g rfl z_su rfl q_fieldAddr z_fp z_ss ?_)); clear z_g; refine s_wit ?_; intro z_g; (first | refine s_skip rfl z_g z_fp ?_ | (refine s_o [(20, _)] rfl z_g rfl z_su rfl q_load z_fp z_ss ?_)); clear z_g; refine s_wit ?_; intro z_g; (first | refine s_skip rfl z_g z_fp ?_ | (refine s_o [(21, _)] rfl z_g rfl z_su rfl q_full z_fp z_ss ?_)); clear z_g; refine s_o [(19, _), (22, _)] rfl rfl rfl z_su rfl q_move z_fp z_ss ?_; exact wpS_nil ⟨rfl, rfl⟩)) z_su ?_; clear z_ex)
        ((repeat refine WpM.seq ?_); refine WpM.condF (by (simp (maxSteps := 2000000) (disch := omega) [go_sem, -List.map_map, h1, h2])) ?_)
        refine WpM.skip ?_
        ((repeat refine WpM.seq ?_); have z_ex := (And.intro @wrap_id True.intro); refine WpM.regPE [] [(1, _), (5, _), (9, _), (10, _), (11, _)] (by (refine s_o [(11, _)] rfl rfl rfl z_su rfl q_full z_fp z_ss ?_; refine s_o [(29, _)] rfl rfl rfl z_su rfl q_move z_fp z_ss ?_; exact wpS_nil ⟨rfl, rfl⟩)) z_su ?_; clear z_ex)
        exact round_end (x' := j + 1) (le_cut (n0 := n0) (l' := [(nr, some (.row 1 ys))]) hH (by (simp (maxSteps := 2000000) (disch := omega) [go_sem, -List.map_map]); omega) (Nat.le_refl _) (by (simp (maxSteps := 2000000) (disch := omega) [go_sem, -List.map_map]))) (Sub.le z_su) ⟨by omega, _, nr, ys, hnr, by show nr < nx + _; omega, no hp, rfl, rfl⟩ (by omega)
    · have hp : wrP key o = false := by simp [wrP, h1]
      ((repeat refine WpM.seq ?_); have z_ex := (And.intro @h1 True.intro); refine WpM.regPE [] [(1, _), (5, _), (7, _), (9, _), (10, _), (11, _), (23, _)] (by (refine s_o [(7, _)] rfl rfl rfl z_su rfl q_fieldAddr z_fp z_ss ?_; refine s_o [(15, _)] rfl rfl rfl z_su rfl q_load z_fp z_ss ?_; refine s_o [(1, _)] rfl rfl rfl z_su rfl q_move z_fp z_ss ?_; refine s_o [(16, _), (17, _)] rfl rfl rfl z_su rfl q_full z_fp z_ss ?_; refine s_o [(18, _)] rfl rfl rfl z_su rfl q_move z_fp z_ss ?_; refine s_wit ?_; intro z_g; (first | refine s_skip rfl z_g z_fp ?_ | (refine s_o [(7, _)] rfl z_g rfl z_su rfl q_fieldAddr z_fp z_ss ?_)); clear z_g; refine s_wit ?_; intro z_g; (first | refine s_skip rfl z_g z_fp ?_ | (refine s_o [(20, _)] rfl z_g rfl z_su rfl q_load z_fp z_ss ?_)); clear z_g; refine s_wit ?_; intro z_g; (first | refine s_skip rfl z_g z_fp ?_ | (refine s_o [(21, _)] rfl z_g rfl z_su rfl q_full z_fp z_ss ?_)); clear z_g; refine s_o [(19, _), (22, _)] rfl rfl rfl z_su rfl q_move z_fp z_ss ?_; exact wpS_nil ⟨rfl, rfl⟩)) z_su ?_; clear z_ex)
      ((repeat refine WpM.seq ?_); refine WpM.condF (by (simp (maxSteps := 2000000) (disch := omega) [go_sem, -List.map_map, h1])) ?_)
      refine WpM.skip ?_
      ((repeat refine WpM.seq ?_); have z_ex := (And.intro @wrap_id True.intro); refine WpM.regPE [] [(1, _), (5, _), (9, _), (10, _), (11, _)] (by (refine s_o [(11, _)] rfl rfl rfl z_su rfl q_full z_fp z_ss ?_; refine s_o [(29, _)] rfl rfl rfl z_su rfl q_move z_fp z_ss ?_; exact wpS_nil ⟨rfl, rfl⟩)) z_su ?_; clear z_ex)
      exact round_end (x' := j + 1) (le_cut (n0 := n0) (l' := [(nr, some (.row 1 ys))]) hH (by (simp (maxSteps := 2000000) (disch := omega) [go_sem, -List.map_map]); omega) (Nat.le_refl _) (by (simp (maxSteps := 2000000) (disch := omega) [go_sem, -List.map_map]))) (Sub.le z_su) ⟨by omega, _, nr, ys, hnr, by show nr < nx + _; omega, no hp, rfl, rfl⟩ (by omega)
  · ((repeat refine WpM.seq ?_); refine WpM.condF (by (simp (maxSteps := 2000000) (disch := omega) [go_sem, -List.map_map, hlt])) ?_)
    (refine WpM.exit ?_; (repeat (with_reducible (first | refine thenM_exit ?_ | refine blockM_eq ?_ | refine blockM_ne (by decide) ?_))))
    obtain rfl : j = t.ops.length := by omega
    rw [List.take_length] at hys
    ((repeat refine WpM.seq ?_); have z_ex := True.intro; refine WpM.regPE [] [(4, _)] (by (refine s_o [(5, _)] rfl rfl rfl z_su rfl q_move z_fp z_ss ?_; refine s_o [(30, _)] rfl rfl rfl z_su rfl q_move z_fp z_ss ?_; exact wpS_nil ⟨rfl, rfl⟩)) z_su ?_; clear z_ex)
    refine WpM.ret ?_
    refine ⟨.inr rfl, Upd.freeze 4 (nm := nr) (sz := 1) (o := 0) (m := ys.length) (xs := ys) ((wroteL t.ops key).map (D.int .i64)) (by (simp (maxSteps := 2000000) (disch := omega) [go_sem, -List.map_map])) (by (simp (maxSteps := 2000000) (disch := omega) [go_sem, -List.map_map])) (by rw [List.drop_zero, List.take_length, hys, intV, List.map_map]; rfl) (by rw [hys, intV]; simp) (Upd.done ?_)⟩
    (simp (maxSteps := 2000000) (disch := omega) [go_sem, -List.map_map, resV, resVs, resV1, fset, ints])
    omega
set_option maxHeartbeats 8000000 in
theorem wrote59 (h : HistD) (hb : HistB h) (i : Nat) (hi : i < h.txns.length) (key : Int) : PureC Try.prog 59 [.d (encHist h), .d (.int .i64 i), .d (.int .i64 key)] (.d (ints (wroteL h.txns[i].ops key))) := by
  refine PureC.of (n := 45) Try.func59 rfl rfl (by simp) (by simp only [argL, Nat.reduceAdd] <;> rfl) rfl ?_
  intro n0 H hH
  obtain ⟨t, ht⟩ : ∃ t, t = h.txns[i] := ⟨_, rfl⟩
  have hgt : (h.txns.map encTxn)[i]? = some (encTxn t) := by simp [hi, ht]
  have hlen := (hb.txns t (ht ▸ List.getElem_mem _)).len
  rw [← ht]
  ((repeat refine WpM.seq ?_); have z_ex := (And.intro @encHist.eq_1 True.intro); refine WpM.regPE [] [(1, _), (2, _), (3, _)] (by (refine s_o [(0, _)] rfl rfl rfl z_su rfl q_box z_fp z_ss ?_; refine s_o [] rfl rfl rfl z_su rfl q_move z_fp z_ss ?_; exact wpS_nil ⟨rfl, rfl⟩)) z_su ?_; clear z_ex)
  ((repeat refine WpM.seq ?_); have z_ex := True.intro; refine WpM.regPE [] [(1, _), (2, _), (3, _), (7, _)] (by (refine s_o [] rfl rfl rfl z_su rfl q_move z_fp z_ss ?_; exact wpS_nil ⟨rfl, rfl⟩)) z_su ?_; clear z_ex)
  refine Upd.wp (Upd.ghost 7 1 (.inl (by (simp (maxSteps := 2000000) (disch := omega) [go_sem, -List.map_map]))) (Upd.done ?_))
  refine WpM.less (le_cut (n0 := n0) (n' := n0 + 4) (l' := [(n0, some (.box [.d (strs h.keys), .d (.sl (h.txns.map encTxn))])), (n0 + 3, some (.row 1 []))]) hH (by (simp (maxSteps := 2000000) (disch := omega) [go_sem, -List.map_map])) (Nat.le_refl _) (by (simp (maxSteps := 2000000) (disch := omega) [go_sem, -List.map_map, encHist, strs]))) (frLe_frOf (l := [(1, .d (.int .i64 i)), (2, .d (.int .i64 key)), (3, .ptr n0 0), (7, .ms (n0 + 3) 1 0 0)]) (by (simp (maxSteps := 2000000) (disch := omega) [go_sem, -List.map_map]))) ?_
  ((repeat refine WpM.seq ?_); have z_ex := True.intro; refine WpM.regPE [] [(1, _), (2, _), (3, _), (7, _), (8, _)] (by (refine s_o [] rfl rfl rfl z_su rfl q_move z_fp z_ss ?_; exact wpS_nil ⟨rfl, rfl⟩)) z_su ?_; clear z_ex)
  ((repeat refine WpM.seq ?_); refine WpM.block ?_)
  refine WpM.loop (fun (j : Nat) fr S => j ≤ t.ops.length ∧ ∃ nx nr ys, n0 < nr ∧ nr < nx ∧ ys = intV (wroteL (t.ops.take j) key) ∧ fr = frOf [(1, .d (.int .i64 i)), (2, .d (.int .i64 key)), (3, .ptr n0 0), (7, .ms nr 1 0 ys.length), (8, .d (.int .i64 j))] ∧ S = ⟨nx, [(n0, some (.box [.d (strs h.keys), .d (.sl (h.txns.map encTxn))])), (nr, some (.row 1 ys))], H⟩) (fun j => t.ops.length - j) 0 (St.Le.refl _) (Sub.le z_su) ⟨by omega, _, n0 + 3, [], by omega, by show n0 + 3 < n0 + _; omega, rfl, rfl, rfl⟩ ?_
  rintro j fr S' ⟨hj, nx, nr, ys, hnr, hnx, hys, rfl, rfl⟩
  have hyl : ys.length ≤ j := by have := wroteL_len (t.ops.take j) key; rw [hys, intV, List.length_map]; simp at this; omega
  ((repeat refine WpM.seq ?_); have z_ex := (And.intro @hgt (And.intro @hi (And.intro @encTxn.eq_1 True.intro))); refine WpM.regPE [] [(1, _), (2, _), (3, _), (7, _), (8, _), (18, _)] (by (refine s_o [(8, _)] rfl rfl rfl z_su rfl q_move z_fp z_ss ?_; refine s_o [(3, _)] rfl rfl rfl z_su rfl q_fieldAddr z_fp z_ss ?_; refine s_o [(11, _)] rfl rfl rfl z_su rfl q_load z_fp z_ss ?_; refine s_o [(1, _)] rfl rfl rfl z_su rfl q_move z_fp z_ss ?_; refine s_o [(12, _), (13, _)] rfl rfl rfl z_su rfl q_full z_fp z_ss ?_; refine s_o [(14, _)] rfl rfl rfl z_su rfl q_fieldAddr z_fp z_ss ?_; refine s_o [(15, _)] rfl rfl rfl z_su rfl q_load z_fp z_ss ?_; refine s_o [(16, _)] rfl rfl rfl z_su rfl q_full z_fp z_ss ?_; refine s_o [(10, _), (17, _)] rfl rfl rfl z_su rfl q_full z_fp z_ss ?_; exact wpS_nil ⟨rfl, rfl⟩)) z_su ?_; clear z_ex)
  by_cases hlt : j < t.ops.length
  · ((repeat refine WpM.seq ?_); refine WpM.condT (by (simp (maxSteps := 2000000) (disch := omega) [go_sem, -List.map_map, hlt])) ?_)
    refine WpM.skip ?_
    ((repeat refine WpM.seq ?_); refine WpM.block ?_)
    obtain ⟨o, ho⟩ : ∃ o, o = t.ops[j] := ⟨_, rfl⟩
    have hget : (t.ops.map encOp)[j]? = some (encOp o) := by simp [hlt, ho]
    have hstep := wroteL_step (key := key) hlt
    rw [← ho] at hstep
    have hwr := writes67 o.kind
    ((repeat refine WpM.seq ?_); have z_ex := (And.intro @hgt (And.intro @hi (And.intro @hget (And.intro @hlt (And.intro @encTxn.eq_1 (And.intro @encOp.eq_1 True.intro)))))); refine WpM.regPE [] [(1, _), (2, _), (3, _), (7, _), (8, _), (9, _)] (by (refine s_o [(3, _)] rfl rfl rfl z_su rfl q_fieldAddr z_fp z_ss ?_; refine s_o [(21, _)] rfl rfl rfl z_su rfl q_load z_fp z_ss ?_; refine s_o [(1, _)] rfl rfl rfl z_su rfl q_move z_fp z_ss ?_; refine s_o [(22, _), (23, _)] rfl rfl rfl z_su rfl q_full z_fp z_ss ?_; refine s_o [(24, _)] rfl rfl rfl z_su rfl q_fieldAddr z_fp z_ss ?_; refine s_o [(25, _)] rfl rfl rfl z_su rfl q_load z_fp z_ss ?_; refine s_o [(8, _)] rfl rfl rfl z_su rfl q_move z_fp z_ss ?_; refine s_o [(26, _), (27, _)] rfl rfl rfl z_su rfl q_full z_fp z_ss ?_; refine s_o [(28, _)] rfl rfl rfl z_su rfl q_load z_fp z_ss ?_; refine s_o [] rfl rfl rfl z_su rfl q_alloc z_fp z_ss ?_; refine s_o [(9, _), (29, _)] rfl rfl rfl z_su rfl q_store z_fp z_ss ?_; exact wpS_nil ⟨rfl, rfl⟩)) z_su ?_; clear z_ex)
    have no : wrP key o = false → ys = intV (wroteL (t.ops.take (j + 1)) key) := fun hp => by rw [hstep, hp, hys]; simp [intV]
    by_cases h1 : o.key = key
    · by_cases h2 : o.kind ≤ 4
      · have hp : wrP key o = true := by simp [wrP, h1, h2]
        have hys' : ys ++ [V.d (.int .i64 o.arg)] = intV (wroteL (t.ops.take (j + 1)) key) := by rw [hstep, hp, hys]; simp [intV]
        ((repeat refine WpM.seq ?_); have z_ex := (And.intro @h1 (And.intro @h2 True.intro)); refine WpM.regPE [] [(1, _), (2, _), (3, _), (7, _), (8, _), (9, _), (38, _)] (by (refine s_o [(9, _)] rfl rfl rfl z_su rfl q_fieldAddr z_fp z_ss ?_; refine s_o [(30, _)] rfl rfl rfl z_su rfl q_load z_fp z_ss ?_; refine s_o [(2, _)] rfl rfl rfl z_su rfl q_move z_fp z_ss ?_; refine s_o [(31, _), (32, _)] rfl rfl rfl z_su rfl q_full z_fp z_ss ?_; refine s_o [(33, _)] rfl rfl rfl z_su rfl q_move z_fp z_ss ?_; refine s_wit ?_; intro z_g; (first | refine s_skip rfl z_g z_fp ?_ | (refine s_o [(9, _)] rfl z_g rfl z_su rfl q_fieldAddr z_fp z_ss ?_)); clear z_g; refine s_wit ?_; intro z_g; (first | refine s_skip rfl z_g z_fp ?_ | (refine s_o [(35, _)] rfl z_g rfl z_su rfl q_load z_fp z_ss ?_)); clear z_g; refine s_wit ?_; intro z_g; (first | refine s_skip rfl z_g z_fp ?_ | (refine s_pure (callOf_eq rfl rfl rfl (mlk_tmp z_lk mlk_nil)) (hwr) rfl z_g z_ip z_fp ?_)); clear z_g; refine s_o [(34, _), (37, _)] rfl rfl rfl z_su rfl q_move z_fp z_ss ?_; exact wpS_nil ⟨rfl, rfl⟩)) z_su ?_; clear z_ex)
        ((repeat refine WpM.seq ?_); refine WpM.condT (by (simp (maxSteps := 2000000) (disch := omega) [go_sem, -List.map_map, h1, h2])) ?_)
        ((repeat refine WpM.seq ?_); have z_ex := True.intro; refine WpM.regPE [] [(1, _), (2, _), (3, _), (7, _), (8, _)] (by (refine s_o [(7, _)] rfl rfl rfl z_su rfl q_move z_fp z_ss ?_; refine s_o [(9, _)] rfl rfl rfl z_su rfl q_fieldAddr z_fp z_ss ?_; refine s_o [(40, _)] rfl rfl rfl z_su rfl q_load z_fp z_ss ?_; refine s_o [(41, _)] rfl rfl rfl z_su rfl q_full z_fp z_ss ?_; refine s_o [(39, _), (42, _)] rfl rfl rfl z_su rfl q_full z_fp z_ss ?_; refine s_o [(43, _)] rfl rfl rfl z_su rfl q_move z_fp z_ss ?_; exact wpS_nil ⟨rfl, rfl⟩)) z_su ?_; clear z_ex)
        ((repeat refine WpM.seq ?_); have z_ex := (And.intro @wrap_id True.intro); refine WpM.regPE [] [(1, _), (2, _), (3, _), (7, _), (8, _)] (by (refine s_o [(8, _)] rfl rfl rfl z_su rfl q_move z_fp z_ss ?_; refine s_o [(19, _)] rfl rfl rfl z_su rfl q_full z_fp z_ss ?_; refine s_o [(20, _)] rfl rfl rfl z_su rfl q_move z_fp z_ss ?_; exact wpS_nil ⟨rfl, rfl⟩)) z_su ?_; clear z_ex)
        exact round_end (x' := j + 1) (le_cut (n0 := n0) (l' := [(n0, some (.box [.d (strs h.keys), .d (.sl (h.txns.map encTxn))])), (nx + 32, some (.row 1 (ys ++ [V.d (.int .i64 o.arg)])))]) hH (by (simp (maxSteps := 2000000) (disch := omega) [go_sem, -List.map_map]); omega) (Nat.le_refl _) (by (simp (maxSteps := 2000000) (disch := omega) [go_sem, -List.map_map]))) (frLe_frOf (by (simp (maxSteps := 2000000) (disch := omega) [go_sem, -List.map_map, wrap_id]))) ⟨by omega, nx + 37, nx + 32, _, by omega, by omega, hys', rfl, by (simp (maxSteps := 2000000) (disch := omega) [go_sem, -List.map_map])⟩ (by omega)
      · have hp : wrP key o = false := by simp [wrP, h2]
        ((repeat refine WpM.seq ?_); have z_ex := (And.intro @h1 (And.intro @h2 True.intro)); refine WpM.regPE [] [(1, _), (2, _), (3, _), (7, _), (8, _), (9, _), (38, _)] (by (refine s_o [(9, _)] rfl rfl rfl z_su rfl q_fieldAddr z_fp z_ss ?_; refine s_o [(30, _)] rfl rfl rfl z_su rfl q_load z_fp z_ss ?_; refine s_o [(2, _)] rfl rfl rfl z_su rfl q_move z_fp z_ss ?_; refine s_o [(31, _), (32, _)] rfl rfl rfl z_su rfl q_full z_fp z_ss ?_; refine s_o [(33, _)] rfl rfl rfl z_su rfl q_move z_fp z_ss ?_; refine s_wit ?_; intro z_g; (first | refine s_skip rfl z_g z_fp ?_ | (refine s_o [(9, _)] rfl z_g rfl z_su rfl q_fieldAddr z_fp z_ss ?_)); clear z_g; refine s_wit ?_; intro z_g; (first | refine s_skip rfl z_g z_fp ?_ | (refine s_o [(35, _)] rfl z_g rfl z_su rfl q_load z_fp z_ss ?_)); clear z_g; refine s_wit ?_; intro z_g; (first | refine s_skip rfl z_g z_fp ?_ | (refine s_pure (callOf_eq rfl rfl rfl (mlk_tmp z_lk mlk_nil)) (hwr) rfl z_g z_ip z_fp ?_)); clear z_g; refine s_o [(34, _), (37, _)] rfl rfl rfl z_su rfl q_move z_fp z_ss ?_; exact wpS_nil ⟨rfl, rfl⟩)) z_su ?_; clear z_ex)
        ((repeat refine WpM.seq ?_); refine WpM.condF (by (simp (maxSteps := 2000000) (disch := omega) [go_sem, -List.map_map, h1, h2])) ?_)
        refine WpM.skip ?_
        ((repeat refine WpM.seq ?_); have z_ex := (And.intro @wrap_id True.intro); refine WpM.regPE [] [(1, _), (2, _), (3, _), (7, _), (8, _)] (by (refine s_o [(8, _)] rfl rfl rfl z_su rfl q_move z_fp z_ss ?_; refine s_o [(19, _)] rfl rfl rfl z_su rfl q_full z_fp z_ss ?_; refine s_o [(20, _)] rfl rfl rfl z_su rfl q_move z_fp z_ss ?_; exact wpS_nil ⟨rfl, rfl⟩)) z_su ?_; clear z_ex)
        exact round_end (x' := j + 1) (le_cut (n0 := n0) (l' := [(n0, some (.box [.d (strs h.keys), .d (.sl (h.txns.map encTxn))])), (nr, some (.row 1 ys))]) hH (by (simp (maxSteps := 2000000) (disch := omega) [go_sem, -List.map_map]); omega) (Nat.le_refl _) (by (simp (maxSteps := 2000000) (disch := omega) [go_sem, -List.map_map]))) (Sub.le z_su) ⟨by omega, _, nr, ys, hnr, by show nr < nx + _; omega, no hp, rfl, rfl⟩ (by omega)
    · have hp : wrP key o = false := by simp [wrP, h1]
      ((repeat refine WpM.seq ?_); have z_ex := (And.intro @h1 True.intro); refine WpM.regPE [] [(1, _), (2, _), (3, _), (7, _), (8, _), (9, _), (38, _)] (by (refine s_o [(9, _)] rfl rfl rfl z_su rfl q_fieldAddr z_fp z_ss ?_; refine s_o [(30, _)] rfl rfl rfl z_su rfl q_load z_fp z_ss ?_; refine s_o [(2, _)] rfl rfl rfl z_su rfl q_move z_fp z_ss ?_; refine s_o [(31, _), (32, _)] rfl rfl rfl z_su rfl q_full z_fp z_ss ?_; refine s_o [(33, _)] rfl rfl rfl z_su rfl q_move z_fp z_ss ?_; refine s_wit ?_; intro z_g; (first | refine s_skip rfl z_g z_fp ?_ | (refine s_o [(9, _)] rfl z_g rfl z_su rfl q_fieldAddr z_fp z_ss ?_)); clear z_g; refine s_wit ?_; intro z_g; (first | refine s_skip rfl z_g z_fp ?_ | (refine s_o [(35, _)] rfl z_g rfl z_su rfl q_load z_fp z_ss ?_)); clear z_g; refine s_wit ?_; intro z_g; (first | refine s_skip rfl z_g z_fp ?_ | (refine s_pure (callOf_eq rfl rfl rfl (mlk_tmp z_lk mlk_nil)) (hwr) rfl z_g z_ip z_fp ?_)); clear z_g; refine s_o [(34, _), (37, _)] rfl rfl rfl z_su rfl q_move z_fp z_ss ?_; exact wpS_nil ⟨rfl, rfl⟩)) z_su ?_; clear z_ex)
      ((repeat refine WpM.seq ?_); refine WpM.condF (by (simp (maxSteps := 2000000) (disch := omega) [go_sem, -List.map_map, h1])) ?_)
      refine WpM.skip ?_
      ((repeat refine WpM.seq ?_); have z_ex := (And.intro @wrap_id True.intro); refine WpM.regPE [] [(1, _), (2, _), (3, _), (7, _), (8, _)] (by (refine s_o [(8, _)] rfl rfl rfl z_su rfl q_move z_fp z_ss ?_; refine s_o [(19, _)] rfl rfl rfl z_su rfl q_full z_fp z_ss ?_; refine s_o [(20, _)] rfl rfl rfl z_su rfl q_move z_fp z_ss ?_; exact wpS_nil ⟨rfl, rfl⟩)) z_su ?_; clear z_ex)
      exact round_end (x' := j + 1) (le_cut (n0 := n0) (l' := [(n0, some (.box [.d (strs h.keys), .d (.sl (h.txns.map encTxn))])), (nr, some (.row 1 ys))]) hH (by (simp (maxSteps := 2000000) (disch := omega) [go_sem, -List.map_map]); omega) (Nat.le_refl _) (by (simp (maxSteps := 2000000) (disch := omega) [go_sem, -List.map_map]))) (Sub.le z_su) ⟨by omega, _, nr, ys, hnr, by show nr < nx + _; omega, no hp, rfl, rfl⟩ (by omega)
  · ((repeat refine WpM.seq ?_); refine WpM.condF (by (simp (maxSteps := 2000000) (disch := omega) [go_sem, -List.map_map, hlt])) ?_)
    (refine WpM.exit ?_; (repeat (with_reducible (first | refine thenM_exit ?_ | refine blockM_eq ?_ | refine blockM_ne (by decide) ?_))))
    obtain rfl : j = t.ops.length := by omega
    rw [List.take_length] at hys
    ((repeat refine WpM.seq ?_); have z_ex := True.intro; refine WpM.regPE [] [(6, _)] (by (refine s_o [(7, _)] rfl rfl rfl z_su rfl q_move z_fp z_ss ?_; refine s_o [(44, _)] rfl rfl rfl z_su rfl q_move z_fp z_ss ?_; exact wpS_nil ⟨rfl, rfl⟩)) z_su ?_; clear z_ex)
    refine WpM.ret ?_
    refine ⟨.inr rfl, Upd.freeze 6 (nm := nr) (sz := 1) (o := 0) (m := ys.length) (xs := ys) ((wroteL t.ops key).map (D.int .i64)) (by (simp (maxSteps := 2000000) (disch := omega) [go_sem, -List.map_map])) (by (simp (maxSteps := 2000000) (disch := omega) [go_sem, -List.map_map])) (by rw [List.drop_zero, List.take_length, hys, intV, List.map_map]; rfl) (by rw [hys, intV]; simp) (Upd.done ?_)⟩
    (simp (maxSteps := 2000000) (disch := omega) [go_sem, -List.map_map, resV, resVs, resV1, fset, ints])
    omega
end Go.Proofs.Ytjjmedgibcffhaa
/- A nil slice in a cell of a struct as pure data. -/
namespace Go.Proofs.Ytjjmedgibcffhaa.M
open Go.RowKit
set_option linter.unusedVariables false
set_option linter.unusedSimpArgs false
theorem Upd.nilIn {n : Nat} {fr : Fr} {S : St} {K : Fr → St → Prop} (bx j : Nat) {cs : List V} (hb : S.get bx = some (.box cs)) (ht : cs[j]? = some .nil ∨ cs[j]? = some .e0) (h : Upd n fr (S.set bx (some (.box (cs.set j (.d (.sl [])))))) K) : Upd n fr S K := by
  intro g w a hi
  have hlen : j < cs.length := by rcases ht with ht | ht <;> exact (List.getElem?_eq_some_iff.1 ht).1
  obtain ⟨hU, b0, vs, tt, f1, f2, f3, f4⟩ := hi.rs.ok _ _ hb
  have hcell : RV g w (.d (.sl [])) (vs.getD j undef) := by
    rcases ht with ht | ht
    · have := f4 j _ ht
      generalize vs.getD j undef = v at this
      cases this
      exact .d (.slNil _ _)
    · have := f4 j _ ht
      generalize vs.getD j undef = v at this
      cases this
      exact .d (.slNil _ _)
  have hrs : RS g w (hset S.get bx (some (.box (cs.set j (.d (.sl [])))))) := by
    refine (hi.rs.write (w' := w) (k' := .box (cs.set j (.d (.sl [])))) hb f1 (fun _ _ => rfl) rfl rfl rfl rfl (fun _ => ⟨b0, vs, tt, f1, f2, by simpa using f3, fun j' y hy => ?_⟩)).2
    rw [List.getElem?_set] at hy
    split at hy
    · rename_i e
      subst e
      try rw [if_pos hlen] at hy
      injection hy with hy
      subst hy
      exact hcell
    · exact f4 j' y hy
  have hi' : Inv n g w fr (S.set bx (some (.box (cs.set j (.d (.sl [])))))) a := ⟨by rw [St.get_set]; exact hrs, hi.lt, hi.rf⟩
  exact h g w a hi'
/-- Nil cells of a struct in a row as pure data. -/
def nilC : V → V
  | .nil => .d (.sl [])
  | x => x
theorem nilC_rv {g : Gh} {w : World} {x : V} {v : Value} (h : RV g w x v) : RV g w (nilC x) v := by
  unfold nilC
  split
  · cases h
    exact .d (.slNil _ _)
  · exact h
theorem Upd.rowNil {n : Nat} {fr : Fr} {S : St} {K : Fr → St → Prop} (nm : Nat) {sz : Nat} {ys : List V} (hb : S.get nm = some (.row sz [.agg ys])) (h : Upd n fr (S.set nm (some (.row sz [mkAgg (ys.map nilC)]))) K) : Upd n fr S K := by
  intro g w a hi
  obtain ⟨hU, h1, h2, h3, h4⟩ := hi.rs.ok _ _ hb
  have hys : ys.length = sz := by simpa [V.cells] using h3 0 (.agg ys) rfl
  rcases h4 with ⟨_, h5⟩ | ⟨b0, vs, tt, f1, f2, f3, f4⟩
  · cases h5
  · have hcells : (mkAgg (ys.map nilC)).cells = ys.map nilC := by
      unfold mkAgg
      split
      · rename_i ds hd
        have := allD_some hd
        rw [this]
        rfl
      · rfl
    have hrs : RS g w (hset S.get nm (some (.row sz [mkAgg (ys.map nilC)]))) := by
      refine (hi.rs.write (w' := w) (k' := .row sz [mkAgg (ys.map nilC)]) hb f1 (fun _ _ => rfl) rfl rfl rfl rfl (fun _ => ⟨h1, by simpa using h2, fun i x hx => ?_, .inr ⟨b0, vs, tt, f1, f2, f3, fun i j x y hx hy => ?_⟩⟩)).2
      · cases i with
        | zero => simp at hx; subst hx; rw [hcells]; simpa using hys
        | succ i => simp at hx
      · cases i with
        | zero =>
          simp at hx
          subst hx
          rw [hcells, List.getElem?_map, Option.map_eq_some_iff] at hy
          obtain ⟨z, hz, rfl⟩ := hy
          exact nilC_rv (f4 0 j (.agg ys) z rfl hz)
        | succ i => simp at hx
    exact h g w a ⟨by rw [St.get_set]; exact hrs, hi.lt, hi.rf⟩
end Go.Proofs.Ytjjmedgibcffhaa.M
/- Final, Type and Writers, both ways. -/
namespace Go.Proofs.Ytjjmedgibcffhaa
open Go.RowKit M
set_option linter.unusedSimpArgs false
set_option linter.unusedVariables false
noncomputable def finalF (h : HistD) (t key : Int) : List Int × Bool := open Classical in if 0 ≤ t ∧ t < h.txns.length ∧ checkB h = true then
    let l := match h.txns[t.toNat]? with | some x => wroteL x.ops key | none => []
    (l, decide (0 < l.length)) else ([], false)
noncomputable def finalV (h : HistD) (t key : Int) : V := .tup [.d (ints (finalF h t key).1), .d (.bool (finalF h t key).2)]
theorem finalV_bad {h : HistD} {t key : Int} (hb : ¬ (0 ≤ t ∧ t < h.txns.length ∧ checkB h = true)) : finalV h t key = .tup [.d (.sl []), .d (.bool false)] := by
  unfold finalV finalF
  rw [if_neg hb]
  rfl
theorem finalV_good {h : HistD} {t : Nat} {key : Int} (hi : t < h.txns.length) (hc : checkB h = true) : finalV h t key = .tup [.d (.sl ((wroteL h.txns[t].ops key).map (D.int .i64))), .d (.bool (decide (0 < (wroteL h.txns[t].ops key).length)))] := by
  unfold finalV finalF
  rw [if_pos ⟨by omega, by omega, hc⟩]
  simp [hi, ints]
theorem errno_ne {b : Bool} : errnoOf b = if b then 0 else 1 := rfl
set_option maxHeartbeats 8000000 in
theorem final36 (h : HistD) (hh : HistOk h) (t key : Int) : PureC Try.prog 36 [.d (encHist h), .d (.int .i64 t), .d (.int .i64 key)] (finalV h t key) := by
  intro S
  refine CallM.pure' (by rfl) (CallM.start (n := 34) Try.func36 rfl rfl (by simp) (by simp only [argL, Nat.reduceAdd] <;> rfl) ?_)
  intro hH
  obtain ⟨H, hHe⟩ : ∃ H, H = S.get := ⟨_, rfl⟩
  obtain ⟨n0, hne⟩ : ∃ n0, n0 = S.next := ⟨_, rfl⟩
  rw [← hHe, ← hne] at hH ⊢
  have hb := hh.b
  have hck := check32 h hh
  obtain ⟨ok, hok⟩ : ∃ ok, ok = checkB h := ⟨_, rfl⟩
  rw [← hok] at hck
  ((repeat refine WpM.seq ?_); have z_ex := (And.intro @encHist.eq_1 True.intro); refine WpM.regPE [] [(1, _), (2, _), (3, _)] (by (refine s_o [(0, _)] rfl rfl rfl z_su rfl q_box z_fp z_ss ?_; refine s_o [] rfl rfl rfl z_su rfl q_move z_fp z_ss ?_; refine s_o [] rfl rfl rfl z_su rfl q_move z_fp z_ss ?_; exact wpS_nil ⟨rfl, rfl⟩)) z_su ?_; clear z_ex)
  by_cases h1 : t < 0
  · rw [finalV_bad (by omega)]
    ((repeat refine WpM.seq ?_); have z_ex := (And.intro @h1 True.intro); refine WpM.regPE [] [(1, _), (2, _), (3, _), (22, _)] (by (refine s_o [(1, _)] rfl rfl rfl z_su rfl q_move z_fp z_ss ?_; refine s_o [(9, _)] rfl rfl rfl z_su rfl q_full z_fp z_ss ?_; refine s_o [(10, _)] rfl rfl rfl z_su rfl q_move z_fp z_ss ?_; refine s_wit ?_; intro z_g; (first | refine s_skip rfl z_g z_fp ?_ | (refine s_o [(1, _)] rfl z_g rfl z_su rfl q_move z_fp z_ss ?_)); clear z_g; refine s_wit ?_; intro z_g; (first | refine s_skip rfl z_g z_fp ?_ | (refine s_o [(3, _)] rfl z_g rfl z_su rfl q_fieldAddr z_fp z_ss ?_)); clear z_g; refine s_wit ?_; intro z_g; (first | refine s_skip rfl z_g z_fp ?_ | (refine s_o [(13, _)] rfl z_g rfl z_su rfl q_load z_fp z_ss ?_)); clear z_g; refine s_wit ?_; intro z_g; (first | refine s_skip rfl z_g z_fp ?_ | (refine s_o [(14, _)] rfl z_g rfl z_su rfl q_full z_fp z_ss ?_)); clear z_g; refine s_wit ?_; intro z_g; (first | refine s_skip rfl z_g z_fp ?_ | (refine s_o [(12, _), (15, _)] rfl z_g rfl z_su rfl q_full z_fp z_ss ?_)); clear z_g; refine s_o [(11, _), (16, _)] rfl rfl rfl z_su rfl q_move z_fp z_ss ?_; refine s_o [(17, _)] rfl rfl rfl z_su rfl q_move z_fp z_ss ?_; refine s_wit ?_; intro z_g; (first | refine s_skip rfl z_g z_fp ?_ | (refine s_o [(3, _)] rfl z_g rfl z_su rfl q_load z_fp z_ss ?_)); clear z_g; refine s_wit ?_; intro z_g; (first | refine s_skip rfl z_g z_fp ?_ | (refine s_pure (callOf_eq rfl rfl rfl (mlk_tmp z_lk mlk_nil)) (?missing) rfl z_g z_ip z_fp ?_)); clear z_g; refine s_wit ?_; intro z_g; (first | refine s_skip rfl z_g z_fp ?_ | (refine s_o [(20, _)] rfl z_g rfl z_su rfl q_full z_fp z_ss ?_)); clear z_g; refine s_o [(18, _), (21, _)] rfl rfl rfl z_su rfl q_move z_fp z_ss ?_; exact wpS_nil ⟨rfl, rfl⟩)) z_su ?_; clear z_ex)
    ((repeat refine WpM.seq ?_); refine WpM.condT (by (simp (maxSteps := 2000000) (disch := omega) [go_sem, -List.map_map, h1])) ?_)
    ((repeat refine WpM.seq ?_); have z_ex := True.intro; refine WpM.regPE [] [(6, _), (7, _)] (by (refine s_o [] rfl rfl rfl z_su rfl q_move z_fp z_ss ?_; refine s_o [] rfl rfl rfl z_su rfl q_move z_fp z_ss ?_; exact wpS_nil ⟨rfl, rfl⟩)) z_su ?_; clear z_ex)
    refine WpM.ret ?_
    refine ⟨.inr rfl, Upd.pureNil 6 (.inl (by (simp (maxSteps := 2000000) (disch := omega) [go_sem, -List.map_map]))) (Upd.done ⟨_, (by (simp (maxSteps := 2000000) (disch := omega) [go_sem, -List.map_map, resV, resVs, resV1, fset])), rfl, fun m k _ hk => ?_⟩)⟩
    have := hH _ _ hk
    (simp (maxSteps := 2000000) (disch := omega) [go_sem, -List.map_map, hk])
  · by_cases h2 : (h.txns.length : Int) ≤ t
    · rw [finalV_bad (by omega)]
      ((repeat refine WpM.seq ?_); have z_ex := (And.intro @h1 (And.intro @h2 True.intro)); refine WpM.regPE [] [(1, _), (2, _), (3, _), (22, _)] (by (refine s_o [(1, _)] rfl rfl rfl z_su rfl q_move z_fp z_ss ?_; refine s_o [(9, _)] rfl rfl rfl z_su rfl q_full z_fp z_ss ?_; refine s_o [(10, _)] rfl rfl rfl z_su rfl q_move z_fp z_ss ?_; refine s_wit ?_; intro z_g; (first | refine s_skip rfl z_g z_fp ?_ | (refine s_o [(1, _)] rfl z_g rfl z_su rfl q_move z_fp z_ss ?_)); clear z_g; refine s_wit ?_; intro z_g; (first | refine s_skip rfl z_g z_fp ?_ | (refine s_o [(3, _)] rfl z_g rfl z_su rfl q_fieldAddr z_fp z_ss ?_)); clear z_g; refine s_wit ?_; intro z_g; (first | refine s_skip rfl z_g z_fp ?_ | (refine s_o [(13, _)] rfl z_g rfl z_su rfl q_load z_fp z_ss ?_)); clear z_g; refine s_wit ?_; intro z_g; (first | refine s_skip rfl z_g z_fp ?_ | (refine s_o [(14, _)] rfl z_g rfl z_su rfl q_full z_fp z_ss ?_)); clear z_g; refine s_wit ?_; intro z_g; (first | refine s_skip rfl z_g z_fp ?_ | (refine s_o [(12, _), (15, _)] rfl z_g rfl z_su rfl q_full z_fp z_ss ?_)); clear z_g; refine s_o [(11, _), (16, _)] rfl rfl rfl z_su rfl q_move z_fp z_ss ?_; refine s_o [(17, _)] rfl rfl rfl z_su rfl q_move z_fp z_ss ?_; refine s_wit ?_; intro z_g; (first | refine s_skip rfl z_g z_fp ?_ | (refine s_o [(3, _)] rfl z_g rfl z_su rfl q_load z_fp z_ss ?_)); clear z_g; refine s_wit ?_; intro z_g; (first | refine s_skip rfl z_g z_fp ?_ | (refine s_pure (callOf_eq rfl rfl rfl (mlk_tmp z_lk mlk_nil)) (?missing) rfl z_g z_ip z_fp ?_)); clear z_g; refine s_wit ?_; intro z_g; (first | refine s_skip rfl z_g z_fp ?_ | (refine s_o [(20, _)] rfl z_g rfl z_su rfl q_full z_fp z_ss ?_)); clear z_g; refine s_o [(18, _), (21, _)] rfl rfl rfl z_su rfl q_move z_fp z_ss ?_; exact wpS_nil ⟨rfl, rfl⟩)) z_su ?_; clear z_ex)
      ((repeat refine WpM.seq ?_); refine WpM.condT (by (simp (maxSteps := 2000000) (disch := omega) [go_sem, -List.map_map, h2])) ?_)
      ((repeat refine WpM.seq ?_); have z_ex := True.intro; refine WpM.regPE [] [(6, _), (7, _)] (by (refine s_o [] rfl rfl rfl z_su rfl q_move z_fp z_ss ?_; refine s_o [] rfl rfl rfl z_su rfl q_move z_fp z_ss ?_; exact wpS_nil ⟨rfl, rfl⟩)) z_su ?_; clear z_ex)
      refine WpM.ret ?_
      refine ⟨.inr rfl, Upd.pureNil 6 (.inl (by (simp (maxSteps := 2000000) (disch := omega) [go_sem, -List.map_map]))) (Upd.done ⟨_, (by (simp (maxSteps := 2000000) (disch := omega) [go_sem, -List.map_map, resV, resVs, resV1, fset])), rfl, fun m k _ hk => ?_⟩)⟩
      have := hH _ _ hk
      (simp (maxSteps := 2000000) (disch := omega) [go_sem, -List.map_map, hk])
    · cases ok with
      | false =>
        rw [finalV_bad (by rw [← hok]; simp)]
        rw [errno_f] at hck
        ((repeat refine WpM.seq ?_); have z_ex := (And.intro @h1 (And.intro @h2 True.intro)); refine WpM.regPE [] [(1, _), (2, _), (3, _), (22, _)] (by (refine s_o [(1, _)] rfl rfl rfl z_su rfl q_move z_fp z_ss ?_; refine s_o [(9, _)] rfl rfl rfl z_su rfl q_full z_fp z_ss ?_; refine s_o [(10, _)] rfl rfl rfl z_su rfl q_move z_fp z_ss ?_; refine s_wit ?_; intro z_g; (first | refine s_skip rfl z_g z_fp ?_ | (refine s_o [(1, _)] rfl z_g rfl z_su rfl q_move z_fp z_ss ?_)); clear z_g; refine s_wit ?_; intro z_g; (first | refine s_skip rfl z_g z_fp ?_ | (refine s_o [(3, _)] rfl z_g rfl z_su rfl q_fieldAddr z_fp z_ss ?_)); clear z_g; refine s_wit ?_; intro z_g; (first | refine s_skip rfl z_g z_fp ?_ | (refine s_o [(13, _)] rfl z_g rfl z_su rfl q_load z_fp z_ss ?_)); clear z_g; refine s_wit ?_; intro z_g; (first | refine s_skip rfl z_g z_fp ?_ | (refine s_o [(14, _)] rfl z_g rfl z_su rfl q_full z_fp z_ss ?_)); clear z_g; refine s_wit ?_; intro z_g; (first | refine s_skip rfl z_g z_fp ?_ | (refine s_o [(12, _), (15, _)] rfl z_g rfl z_su rfl q_full z_fp z_ss ?_)); clear z_g; refine s_o [(11, _), (16, _)] rfl rfl rfl z_su rfl q_move z_fp z_ss ?_; refine s_o [(17, _)] rfl rfl rfl z_su rfl q_move z_fp z_ss ?_; refine s_wit ?_; intro z_g; (first | refine s_skip rfl z_g z_fp ?_ | (refine s_o [(3, _)] rfl z_g rfl z_su rfl q_load z_fp z_ss ?_)); clear z_g; refine s_wit ?_; intro z_g; (first | refine s_skip rfl z_g z_fp ?_ | (refine s_pure (callOf_eq rfl rfl rfl (mlk_tmp z_lk mlk_nil)) (hck) rfl z_g z_ip z_fp ?_)); clear z_g; refine s_wit ?_; intro z_g; (first | refine s_skip rfl z_g z_fp ?_ | (refine s_o [(20, _)] rfl z_g rfl z_su rfl q_full z_fp z_ss ?_)); clear z_g; refine s_o [(18, _), (21, _)] rfl rfl rfl z_su rfl q_move z_fp z_ss ?_; exact wpS_nil ⟨rfl, rfl⟩)) z_su ?_; clear z_ex)
        ((repeat refine WpM.seq ?_); refine WpM.condT (by (simp (maxSteps := 2000000) (disch := omega) [go_sem, -List.map_map])) ?_)
        ((repeat refine WpM.seq ?_); have z_ex := True.intro; refine WpM.regPE [] [(6, _), (7, _)] (by (refine s_o [] rfl rfl rfl z_su rfl q_move z_fp z_ss ?_; refine s_o [] rfl rfl rfl z_su rfl q_move z_fp z_ss ?_; exact wpS_nil ⟨rfl, rfl⟩)) z_su ?_; clear z_ex)
        refine WpM.ret ?_
        refine ⟨.inr rfl, Upd.pureNil 6 (.inl (by (simp (maxSteps := 2000000) (disch := omega) [go_sem, -List.map_map]))) (Upd.done ⟨_, (by (simp (maxSteps := 2000000) (disch := omega) [go_sem, -List.map_map, resV, resVs, resV1, fset])), rfl, fun m k _ hk => ?_⟩)⟩
        have := hH _ _ hk
        (simp (maxSteps := 2000000) (disch := omega) [go_sem, -List.map_map, hk])
      | true =>
        rw [errno_t] at hck
        obtain ⟨i, rfl⟩ : ∃ i : Nat, t = i := ⟨t.toNat, by omega⟩
        have hi : i < h.txns.length := by omega
        rw [finalV_good hi hok.symm]
        obtain ⟨x, hx⟩ : ∃ x, x = h.txns[i] := ⟨_, rfl⟩
        have hgx : (h.txns.map encTxn)[i]? = some (encTxn x) := by simp [hi, hx]
        have hwr := wrote58 x (hb.txns x (hx ▸ List.getElem_mem _)) key
        rw [← hx]
        obtain ⟨wl, hwl⟩ : ∃ wl, wl = wroteL x.ops key := ⟨_, rfl⟩
        rw [← hwl] at hwr ⊢
        ((repeat refine WpM.seq ?_); have z_ex := (And.intro @h1 (And.intro @h2 True.intro)); refine WpM.regPE [] [(1, _), (2, _), (3, _), (22, _)] (by (refine s_o [(1, _)] rfl rfl rfl z_su rfl q_move z_fp z_ss ?_; refine s_o [(9, _)] rfl rfl rfl z_su rfl q_full z_fp z_ss ?_; refine s_o [(10, _)] rfl rfl rfl z_su rfl q_move z_fp z_ss ?_; refine s_wit ?_; intro z_g; (first | refine s_skip rfl z_g z_fp ?_ | (refine s_o [(1, _)] rfl z_g rfl z_su rfl q_move z_fp z_ss ?_)); clear z_g; refine s_wit ?_; intro z_g; (first | refine s_skip rfl z_g z_fp ?_ | (refine s_o [(3, _)] rfl z_g rfl z_su rfl q_fieldAddr z_fp z_ss ?_)); clear z_g; refine s_wit ?_; intro z_g; (first | refine s_skip rfl z_g z_fp ?_ | (refine s_o [(13, _)] rfl z_g rfl z_su rfl q_load z_fp z_ss ?_)); clear z_g; refine s_wit ?_; intro z_g; (first | refine s_skip rfl z_g z_fp ?_ | (refine s_o [(14, _)] rfl z_g rfl z_su rfl q_full z_fp z_ss ?_)); clear z_g; refine s_wit ?_; intro z_g; (first | refine s_skip rfl z_g z_fp ?_ | (refine s_o [(12, _), (15, _)] rfl z_g rfl z_su rfl q_full z_fp z_ss ?_)); clear z_g; refine s_o [(11, _), (16, _)] rfl rfl rfl z_su rfl q_move z_fp z_ss ?_; refine s_o [(17, _)] rfl rfl rfl z_su rfl q_move z_fp z_ss ?_; refine s_wit ?_; intro z_g; (first | refine s_skip rfl z_g z_fp ?_ | (refine s_o [(3, _)] rfl z_g rfl z_su rfl q_load z_fp z_ss ?_)); clear z_g; refine s_wit ?_; intro z_g; (first | refine s_skip rfl z_g z_fp ?_ | (refine s_pure (callOf_eq rfl rfl rfl (mlk_tmp z_lk mlk_nil)) (hck) rfl z_g z_ip z_fp ?_)); clear z_g; refine s_wit ?_; intro z_g; (first | refine s_skip rfl z_g z_fp ?_ | (refine s_o [(20, _)] rfl z_g rfl z_su rfl q_full z_fp z_ss ?_)); clear z_g; refine s_o [(18, _), (21, _)] rfl rfl rfl z_su rfl q_move z_fp z_ss ?_; exact wpS_nil ⟨rfl, rfl⟩)) z_su ?_; clear z_ex)
        ((repeat refine WpM.seq ?_); refine WpM.condF (by (simp (maxSteps := 2000000) (disch := omega) [go_sem, -List.map_map])) ?_)
        refine WpM.skip ?_
        ((repeat refine WpM.seq ?_); have z_ex := (And.intro @hgx (And.intro @hi (And.intro @encTxn.eq_1 True.intro))); refine WpM.regPE [] [(8, _)] (by (refine s_o [(3, _)] rfl rfl rfl z_su rfl q_fieldAddr z_fp z_ss ?_; refine s_o [(23, _)] rfl rfl rfl z_su rfl q_load z_fp z_ss ?_; refine s_o [(1, _)] rfl rfl rfl z_su rfl q_move z_fp z_ss ?_; refine s_o [(24, _), (25, _)] rfl rfl rfl z_su rfl q_full z_fp z_ss ?_; refine s_o [(26, _)] rfl rfl rfl z_su rfl q_load z_fp z_ss ?_; refine s_o [(2, _)] rfl rfl rfl z_su rfl q_move z_fp z_ss ?_; refine s_pure (callOf_eq rfl rfl rfl (mlk_tmp z_lk (mlk_tmp z_lk mlk_nil))) (hwr) rfl rfl z_ip z_fp ?_; refine s_o [(29, _)] rfl rfl rfl z_su rfl q_move z_fp z_ss ?_; exact wpS_nil ⟨rfl, rfl⟩)) z_su ?_; clear z_ex)
        ((repeat refine WpM.seq ?_); have z_ex := (And.intro @ints.eq_1 True.intro); refine WpM.regPE [] [(6, _), (7, _)] (by (refine s_o [(8, _)] rfl rfl rfl z_su rfl q_move z_fp z_ss ?_; refine s_o [(8, _)] rfl rfl rfl z_su rfl q_move z_fp z_ss ?_; refine s_o [(31, _)] rfl rfl rfl z_su rfl q_full z_fp z_ss ?_; refine s_o [(32, _)] rfl rfl rfl z_su rfl q_full z_fp z_ss ?_; refine s_o [(30, _)] rfl rfl rfl z_su rfl q_move z_fp z_ss ?_; refine s_o [(33, _)] rfl rfl rfl z_su rfl q_move z_fp z_ss ?_; exact wpS_nil ⟨rfl, rfl⟩)) z_su ?_; clear z_ex)
        refine WpM.ret ?_
        exact ⟨.inr rfl, Upd.done ⟨_, (by (simp (maxSteps := 2000000) (disch := omega) [go_sem, -List.map_map, resV, resVs, resV1, ints])), rfl, fun m k _ hk => by have := hH _ _ hk; (simp (maxSteps := 2000000) (disch := omega) [go_sem, -List.map_map, hk])⟩⟩
set_option maxHeartbeats 8000000 in
theorem final37 (h : HistD) (hh : HistOk h) (t key : Int) : PureC Try.prog 37 [.d (encHist h), .d (.int .i64 t), .d (.int .i64 key)] (finalV h t key) := by
  intro S
  refine CallM.pure' (by rfl) (CallM.start (n := 31) Try.func37 rfl rfl (by simp) (by simp only [argL, Nat.reduceAdd] <;> rfl) ?_)
  intro hH
  obtain ⟨H, hHe⟩ : ∃ H, H = S.get := ⟨_, rfl⟩
  obtain ⟨n0, hne⟩ : ∃ n0, n0 = S.next := ⟨_, rfl⟩
  rw [← hHe, ← hne] at hH ⊢
  have hb := hh.b
  have hck := check33 h hh
  obtain ⟨ok, hok⟩ : ∃ ok, ok = checkB h := ⟨_, rfl⟩
  rw [← hok] at hck
  ((repeat refine WpM.seq ?_); have z_ex := (And.intro @encHist.eq_1 True.intro); refine WpM.regPE [] [(1, _), (2, _), (3, _)] (by (refine s_o [(0, _)] rfl rfl rfl z_su rfl q_box z_fp z_ss ?_; refine s_o [] rfl rfl rfl z_su rfl q_move z_fp z_ss ?_; refine s_o [] rfl rfl rfl z_su rfl q_move z_fp z_ss ?_; exact wpS_nil ⟨rfl, rfl⟩)) z_su ?_; clear z_ex)
  cases ok with
  | false =>
    rw [finalV_bad (by rw [← hok]; simp)]
    rw [errno_f] at hck
    ((repeat refine WpM.seq ?_); have z_ex := True.intro; refine WpM.regPE [] [(1, _), (2, _), (3, _), (22, _)] (by (refine s_o [(3, _)] rfl rfl rfl z_su rfl q_load z_fp z_ss ?_; refine s_pure (callOf_eq rfl rfl rfl (mlk_tmp z_lk mlk_nil)) (hck) rfl rfl z_ip z_fp ?_; refine s_o [(10, _)] rfl rfl rfl z_su rfl q_full z_fp z_ss ?_; refine s_o [(11, _)] rfl rfl rfl z_su rfl q_move z_fp z_ss ?_; refine s_wit ?_; intro z_g; (first | refine s_skip rfl z_g z_fp ?_ | (refine s_o [(1, _)] rfl z_g rfl z_su rfl q_move z_fp z_ss ?_)); clear z_g; refine s_wit ?_; intro z_g; (first | refine s_skip rfl z_g z_fp ?_ | (refine s_o [(13, _)] rfl z_g rfl z_su rfl q_full z_fp z_ss ?_)); clear z_g; refine s_o [(12, _), (14, _)] rfl rfl rfl z_su rfl q_move z_fp z_ss ?_; refine s_o [(15, _)] rfl rfl rfl z_su rfl q_move z_fp z_ss ?_; refine s_wit ?_; intro z_g; (first | refine s_skip rfl z_g z_fp ?_ | (refine s_o [(1, _)] rfl z_g rfl z_su rfl q_move z_fp z_ss ?_)); clear z_g; refine s_wit ?_; intro z_g; (first | refine s_skip rfl z_g z_fp ?_ | (refine s_o [(3, _)] rfl z_g rfl z_su rfl q_fieldAddr z_fp z_ss ?_)); clear z_g; refine s_wit ?_; intro z_g; (first | refine s_skip rfl z_g z_fp ?_ | (refine s_o [(18, _)] rfl z_g rfl z_su rfl q_load z_fp z_ss ?_)); clear z_g; refine s_wit ?_; intro z_g; (first | refine s_skip rfl z_g z_fp ?_ | (refine s_o [(19, _)] rfl z_g rfl z_su rfl q_full z_fp z_ss ?_)); clear z_g; refine s_wit ?_; intro z_g; (first | refine s_skip rfl z_g z_fp ?_ | (refine s_o [(17, _), (20, _)] rfl z_g rfl z_su rfl q_full z_fp z_ss ?_)); clear z_g; refine s_o [(16, _), (21, _)] rfl rfl rfl z_su rfl q_move z_fp z_ss ?_; exact wpS_nil ⟨rfl, rfl⟩)) z_su ?_; clear z_ex)
    ((repeat refine WpM.seq ?_); refine WpM.condT (by (simp (maxSteps := 2000000) (disch := omega) [go_sem, -List.map_map])) ?_)
    ((repeat refine WpM.seq ?_); have z_ex := True.intro; refine WpM.regPE [] [(6, _), (7, _)] (by (refine s_o [] rfl rfl rfl z_su rfl q_move z_fp z_ss ?_; refine s_o [] rfl rfl rfl z_su rfl q_move z_fp z_ss ?_; exact wpS_nil ⟨rfl, rfl⟩)) z_su ?_; clear z_ex)
    refine WpM.ret ?_
    refine ⟨.inr rfl, Upd.pureNil 6 (.inl (by (simp (maxSteps := 2000000) (disch := omega) [go_sem, -List.map_map]))) (Upd.done ⟨_, (by (simp (maxSteps := 2000000) (disch := omega) [go_sem, -List.map_map, resV, resVs, resV1, fset])), rfl, fun m k _ hk => ?_⟩)⟩
    have := hH _ _ hk
    (simp (maxSteps := 2000000) (disch := omega) [go_sem, -List.map_map, hk])
  | true =>
    rw [errno_t] at hck
    by_cases h1 : t < 0
    · rw [finalV_bad (by omega)]
      ((repeat refine WpM.seq ?_); have z_ex := (And.intro @h1 True.intro); refine WpM.regPE [] [(1, _), (2, _), (3, _), (22, _)] (by (refine s_o [(3, _)] rfl rfl rfl z_su rfl q_load z_fp z_ss ?_; refine s_pure (callOf_eq rfl rfl rfl (mlk_tmp z_lk mlk_nil)) (hck) rfl rfl z_ip z_fp ?_; refine s_o [(10, _)] rfl rfl rfl z_su rfl q_full z_fp z_ss ?_; refine s_o [(11, _)] rfl rfl rfl z_su rfl q_move z_fp z_ss ?_; refine s_wit ?_; intro z_g; (first | refine s_skip rfl z_g z_fp ?_ | (refine s_o [(1, _)] rfl z_g rfl z_su rfl q_move z_fp z_ss ?_)); clear z_g; refine s_wit ?_; intro z_g; (first | refine s_skip rfl z_g z_fp ?_ | (refine s_o [(13, _)] rfl z_g rfl z_su rfl q_full z_fp z_ss ?_)); clear z_g; refine s_o [(12, _), (14, _)] rfl rfl rfl z_su rfl q_move z_fp z_ss ?_; refine s_o [(15, _)] rfl rfl rfl z_su rfl q_move z_fp z_ss ?_; refine s_wit ?_; intro z_g; (first | refine s_skip rfl z_g z_fp ?_ | (refine s_o [(1, _)] rfl z_g rfl z_su rfl q_move z_fp z_ss ?_)); clear z_g; refine s_wit ?_; intro z_g; (first | refine s_skip rfl z_g z_fp ?_ | (refine s_o [(3, _)] rfl z_g rfl z_su rfl q_fieldAddr z_fp z_ss ?_)); clear z_g; refine s_wit ?_; intro z_g; (first | refine s_skip rfl z_g z_fp ?_ | (refine s_o [(18, _)] rfl z_g rfl z_su rfl q_load z_fp z_ss ?_)); clear z_g; refine s_wit ?_; intro z_g; (first | refine s_skip rfl z_g z_fp ?_ | (refine s_o [(19, _)] rfl z_g rfl z_su rfl q_full z_fp z_ss ?_)); clear z_g; refine s_wit ?_; intro z_g; (first | refine s_skip rfl z_g z_fp ?_ | (refine s_o [(17, _), (20, _)] rfl z_g rfl z_su rfl q_full z_fp z_ss ?_)); clear z_g; refine s_o [(16, _), (21, _)] rfl rfl rfl z_su rfl q_move z_fp z_ss ?_; exact wpS_nil ⟨rfl, rfl⟩)) z_su ?_; clear z_ex)
      ((repeat refine WpM.seq ?_); refine WpM.condT (by (simp (maxSteps := 2000000) (disch := omega) [go_sem, -List.map_map, h1])) ?_)
      ((repeat refine WpM.seq ?_); have z_ex := True.intro; refine WpM.regPE [] [(6, _), (7, _)] (by (refine s_o [] rfl rfl rfl z_su rfl q_move z_fp z_ss ?_; refine s_o [] rfl rfl rfl z_su rfl q_move z_fp z_ss ?_; exact wpS_nil ⟨rfl, rfl⟩)) z_su ?_; clear z_ex)
      refine WpM.ret ?_
      refine ⟨.inr rfl, Upd.pureNil 6 (.inl (by (simp (maxSteps := 2000000) (disch := omega) [go_sem, -List.map_map]))) (Upd.done ⟨_, (by (simp (maxSteps := 2000000) (disch := omega) [go_sem, -List.map_map, resV, resVs, resV1, fset])), rfl, fun m k _ hk => ?_⟩)⟩
      have := hH _ _ hk
      (simp (maxSteps := 2000000) (disch := omega) [go_sem, -List.map_map, hk])
    · by_cases h2 : (h.txns.length : Int) ≤ t
      · rw [finalV_bad (by omega)]
        ((repeat refine WpM.seq ?_); have z_ex := (And.intro @h1 (And.intro @h2 True.intro)); refine WpM.regPE [] [(1, _), (2, _), (3, _), (22, _)] (by (refine s_o [(3, _)] rfl rfl rfl z_su rfl q_load z_fp z_ss ?_; refine s_pure (callOf_eq rfl rfl rfl (mlk_tmp z_lk mlk_nil)) (hck) rfl rfl z_ip z_fp ?_; refine s_o [(10, _)] rfl rfl rfl z_su rfl q_full z_fp z_ss ?_; refine s_o [(11, _)] rfl rfl rfl z_su rfl q_move z_fp z_ss ?_; refine s_wit ?_; intro z_g; (first | refine s_skip rfl z_g z_fp ?_ | (refine s_o [(1, _)] rfl z_g rfl z_su rfl q_move z_fp z_ss ?_)); clear z_g; refine s_wit ?_; intro z_g; (first | refine s_skip rfl z_g z_fp ?_ | (refine s_o [(13, _)] rfl z_g rfl z_su rfl q_full z_fp z_ss ?_)); clear z_g; refine s_o [(12, _), (14, _)] rfl rfl rfl z_su rfl q_move z_fp z_ss ?_; refine s_o [(15, _)] rfl rfl rfl z_su rfl q_move z_fp z_ss ?_; refine s_wit ?_; intro z_g; (first | refine s_skip rfl z_g z_fp ?_ | (refine s_o [(1, _)] rfl z_g rfl z_su rfl q_move z_fp z_ss ?_)); clear z_g; refine s_wit ?_; intro z_g; (first | refine s_skip rfl z_g z_fp ?_ | (refine s_o [(3, _)] rfl z_g rfl z_su rfl q_fieldAddr z_fp z_ss ?_)); clear z_g; refine s_wit ?_; intro z_g; (first | refine s_skip rfl z_g z_fp ?_ | (refine s_o [(18, _)] rfl z_g rfl z_su rfl q_load z_fp z_ss ?_)); clear z_g; refine s_wit ?_; intro z_g; (first | refine s_skip rfl z_g z_fp ?_ | (refine s_o [(19, _)] rfl z_g rfl z_su rfl q_full z_fp z_ss ?_)); clear z_g; refine s_wit ?_; intro z_g; (first | refine s_skip rfl z_g z_fp ?_ | (refine s_o [(17, _), (20, _)] rfl z_g rfl z_su rfl q_full z_fp z_ss ?_)); clear z_g; refine s_o [(16, _), (21, _)] rfl rfl rfl z_su rfl q_move z_fp z_ss ?_; exact wpS_nil ⟨rfl, rfl⟩)) z_su ?_; clear z_ex)
        ((repeat refine WpM.seq ?_); refine WpM.condT (by (simp (maxSteps := 2000000) (disch := omega) [go_sem, -List.map_map, h2])) ?_)
        ((repeat refine WpM.seq ?_); have z_ex := True.intro; refine WpM.regPE [] [(6, _), (7, _)] (by (refine s_o [] rfl rfl rfl z_su rfl q_move z_fp z_ss ?_; refine s_o [] rfl rfl rfl z_su rfl q_move z_fp z_ss ?_; exact wpS_nil ⟨rfl, rfl⟩)) z_su ?_; clear z_ex)
        refine WpM.ret ?_
        refine ⟨.inr rfl, Upd.pureNil 6 (.inl (by (simp (maxSteps := 2000000) (disch := omega) [go_sem, -List.map_map]))) (Upd.done ⟨_, (by (simp (maxSteps := 2000000) (disch := omega) [go_sem, -List.map_map, resV, resVs, resV1, fset])), rfl, fun m k _ hk => ?_⟩)⟩
        have := hH _ _ hk
        (simp (maxSteps := 2000000) (disch := omega) [go_sem, -List.map_map, hk])
      · obtain ⟨i, rfl⟩ : ∃ i : Nat, t = i := ⟨t.toNat, by omega⟩
        have hi : i < h.txns.length := by omega
        rw [finalV_good hi hok.symm]
        have hwr := wrote59 h hb i hi key
        obtain ⟨wl, hwl⟩ : ∃ wl, wl = wroteL h.txns[i].ops key := ⟨_, rfl⟩
        rw [← hwl] at hwr ⊢
        ((repeat refine WpM.seq ?_); have z_ex := (And.intro @h1 (And.intro @h2 True.intro)); refine WpM.regPE [] [(1, _), (2, _), (3, _), (22, _)] (by (refine s_o [(3, _)] rfl rfl rfl z_su rfl q_load z_fp z_ss ?_; refine s_pure (callOf_eq rfl rfl rfl (mlk_tmp z_lk mlk_nil)) (hck) rfl rfl z_ip z_fp ?_; refine s_o [(10, _)] rfl rfl rfl z_su rfl q_full z_fp z_ss ?_; refine s_o [(11, _)] rfl rfl rfl z_su rfl q_move z_fp z_ss ?_; refine s_wit ?_; intro z_g; (first | refine s_skip rfl z_g z_fp ?_ | (refine s_o [(1, _)] rfl z_g rfl z_su rfl q_move z_fp z_ss ?_)); clear z_g; refine s_wit ?_; intro z_g; (first | refine s_skip rfl z_g z_fp ?_ | (refine s_o [(13, _)] rfl z_g rfl z_su rfl q_full z_fp z_ss ?_)); clear z_g; refine s_o [(12, _), (14, _)] rfl rfl rfl z_su rfl q_move z_fp z_ss ?_; refine s_o [(15, _)] rfl rfl rfl z_su rfl q_move z_fp z_ss ?_; refine s_wit ?_; intro z_g; (first | refine s_skip rfl z_g z_fp ?_ | (refine s_o [(1, _)] rfl z_g rfl z_su rfl q_move z_fp z_ss ?_)); clear z_g; refine s_wit ?_; intro z_g; (first | refine s_skip rfl z_g z_fp ?_ | (refine s_o [(3, _)] rfl z_g rfl z_su rfl q_fieldAddr z_fp z_ss ?_)); clear z_g; refine s_wit ?_; intro z_g; (first | refine s_skip rfl z_g z_fp ?_ | (refine s_o [(18, _)] rfl z_g rfl z_su rfl q_load z_fp z_ss ?_)); clear z_g; refine s_wit ?_; intro z_g; (first | refine s_skip rfl z_g z_fp ?_ | (refine s_o [(19, _)] rfl z_g rfl z_su rfl q_full z_fp z_ss ?_)); clear z_g; refine s_wit ?_; intro z_g; (first | refine s_skip rfl z_g z_fp ?_ | (refine s_o [(17, _), (20, _)] rfl z_g rfl z_su rfl q_full z_fp z_ss ?_)); clear z_g; refine s_o [(16, _), (21, _)] rfl rfl rfl z_su rfl q_move z_fp z_ss ?_; exact wpS_nil ⟨rfl, rfl⟩)) z_su ?_; clear z_ex)
        ((repeat refine WpM.seq ?_); refine WpM.condF (by (simp (maxSteps := 2000000) (disch := omega) [go_sem, -List.map_map, h2])) ?_)
        refine WpM.skip ?_
        ((repeat refine WpM.seq ?_); have z_ex := True.intro; refine WpM.regPE [] [(8, _)] (by (refine s_o [(3, _)] rfl rfl rfl z_su rfl q_load z_fp z_ss ?_; refine s_o [(1, _)] rfl rfl rfl z_su rfl q_move z_fp z_ss ?_; refine s_o [(2, _)] rfl rfl rfl z_su rfl q_move z_fp z_ss ?_; refine s_pure (callOf_eq rfl rfl rfl (mlk_tmp z_lk (mlk_tmp z_lk (mlk_tmp z_lk mlk_nil)))) (hwr) rfl rfl z_ip z_fp ?_; refine s_o [(26, _)] rfl rfl rfl z_su rfl q_move z_fp z_ss ?_; exact wpS_nil ⟨rfl, rfl⟩)) z_su ?_; clear z_ex)
        ((repeat refine WpM.seq ?_); have z_ex := (And.intro @ints.eq_1 True.intro); refine WpM.regPE [] [(6, _), (7, _)] (by (refine s_o [(8, _)] rfl rfl rfl z_su rfl q_move z_fp z_ss ?_; refine s_o [(8, _)] rfl rfl rfl z_su rfl q_move z_fp z_ss ?_; refine s_o [(28, _)] rfl rfl rfl z_su rfl q_full z_fp z_ss ?_; refine s_o [(29, _)] rfl rfl rfl z_su rfl q_full z_fp z_ss ?_; refine s_o [(27, _)] rfl rfl rfl z_su rfl q_move z_fp z_ss ?_; refine s_o [(30, _)] rfl rfl rfl z_su rfl q_move z_fp z_ss ?_; exact wpS_nil ⟨rfl, rfl⟩)) z_su ?_; clear z_ex)
        refine WpM.ret ?_
        exact ⟨.inr rfl, Upd.done ⟨_, (by (simp (maxSteps := 2000000) (disch := omega) [go_sem, -List.map_map, resV, resVs, resV1, ints])), rfl, fun m k _ hk => by have := hH _ _ hk; (simp (maxSteps := 2000000) (disch := omega) [go_sem, -List.map_map, hk])⟩⟩
end Go.Proofs.Ytjjmedgibcffhaa
/- Type and Writers, both ways. -/
namespace Go.Proofs.Ytjjmedgibcffhaa
open Go.RowKit M
set_option linter.unusedSimpArgs false
set_option linter.unusedVariables false
def allOps (h : HistD) : List OpD := h.txns.flatMap (·.ops)
noncomputable def typeF (h : HistD) (key : Int) : Int := if checkB h = true then match (allOps h).find? (fun o => decide (o.key = key)) with | some o => tyOf o.kind | none => 0 else 0
theorem type_hit {h : HistD} {key : Int} {i k : Nat} (hi : i < h.txns.length) (hk : k < h.txns[i].ops.length) (hn : ∀ (q : Nat) (hq : q < h.txns.length), q < i → ∀ o ∈ h.txns[q].ops, o.key ≠ key) (hn2 : ∀ (r : Nat) (hr : r < h.txns[i].ops.length), r < k → h.txns[i].ops[r].key ≠ key) (he : h.txns[i].ops[k].key = key) :
    (allOps h).find? (fun o => decide (o.key = key)) = some h.txns[i].ops[k] := by
  have e1 : h.txns = h.txns.take i ++ h.txns[i] :: h.txns.drop (i + 1) := by rw [← List.drop_eq_getElem_cons hi, List.take_append_drop]
  have e2 : h.txns[i].ops = h.txns[i].ops.take k ++ h.txns[i].ops[k] :: h.txns[i].ops.drop (k + 1) := by rw [← List.drop_eq_getElem_cons hk, List.take_append_drop]
  have n1 : ((h.txns.take i).flatMap (·.ops)).find? (fun o => decide (o.key = key)) = none := by
    rw [List.find?_eq_none]
    intro o ho
    obtain ⟨t, ht, ho⟩ := List.mem_flatMap.1 ho
    obtain ⟨q, hq, rfl⟩ := List.mem_take_iff_getElem.1 ht
    simpa using hn q (by omega) (by omega) o ho
  have n2 : (h.txns[i].ops.take k).find? (fun o => decide (o.key = key)) = none := by
    rw [List.find?_eq_none]
    intro o ho
    obtain ⟨q, hq, rfl⟩ := List.mem_take_iff_getElem.1 ho
    simpa using hn2 q (by omega) (by omega)
  rw [allOps]
  conv => lhs; rw [e1]
  rw [List.flatMap_append, List.find?_append, n1, Option.none_or, List.flatMap_cons, List.find?_append]
  conv => lhs; rw [e2]
  rw [List.find?_append, n2, Option.none_or, List.find?_cons_of_pos (by simpa using he)]
  rfl
theorem type_miss {h : HistD} {key : Int} (hn : ∀ (q : Nat) (hq : q < h.txns.length), ∀ o ∈ h.txns[q].ops, o.key ≠ key) : (allOps h).find? (fun o => decide (o.key = key)) = none := by
  rw [List.find?_eq_none]
  intro o ho
  obtain ⟨t, ht, ho⟩ := List.mem_flatMap.1 ho
  obtain ⟨q, hq, rfl⟩ := List.getElem_of_mem ht
  simpa using hn q hq o ho
theorem checkSt_all {h : HistD} : ∀ {m : Nat} {b : Bk}, checkSt h m = some b → ∀ i, i < m → ∃ b0 b1, checkSt h i = some b0 ∧ stepT h i b0 = some b1
  | 0, b, _, i, hi => by omega
  | m + 1, b, hm, i, hi => by
    rw [checkSt] at hm
    cases hc : checkSt h m with
    | none => rw [hc] at hm; cases hm
    | some b0 =>
      rw [hc] at hm
      rcases Nat.lt_or_ge i m with h1 | h1
      · exact checkSt_all hc i h1
      · obtain rfl : i = m := by omega
        exact ⟨b0, b, hc, hm⟩
theorem checkB_ev {h : HistD} (hc : checkB h = true) {i : Nat} (hi : i < h.txns.length) : evOkB h.keys h.txns[i] = true := by
  rw [checkB, Bool.and_eq_true] at hc
  obtain ⟨b, hb⟩ := Option.isSome_iff_exists.1 hc.2
  obtain ⟨b0, b1, _, hs⟩ := checkSt_all hb i hi
  rw [stepT_get hi] at hs
  split at hs
  · rename_i hcond
    rw [Bool.and_eq_true] at hcond
    exact hcond.1
  · cases hs
theorem checkB_kind {h : HistD} (hc : checkB h = true) {i : Nat} (hi : i < h.txns.length) {o : OpD} (ho : o ∈ h.txns[i].ops) : 1 ≤ o.kind ∧ o.kind ≤ 8 := by
  have hev := checkB_ev hc hi
  rw [evOkB, Bool.and_eq_true] at hev
  obtain ⟨ha, he⟩ := hev
  have hw := (takeWhile_good (okKey h.keys.length) h.txns[i].ops (fun j hj => List.all_eq_true.1 ha _ (List.getElem_mem _))).1
  have := (eventOk_spec he).2.2.2 (callOf' h.keys o) (by simp only [evOf, hw]; exact List.mem_map_of_mem ho)
  exact callOk_kind this
set_option maxHeartbeats 8000000 in
theorem type34 (h : HistD) (hh : HistOk h) (key : Int) : PureC Try.prog 34 [.d (encHist h), .d (.int .i64 key)] (.d (.int .i64 (typeF h key))) := by
  intro S
  refine CallM.pure' (by rfl) (CallM.start (n := 35) Try.func34 rfl rfl (by simp) (by simp only [argL, Nat.reduceAdd] <;> rfl) ?_)
  intro hH
  obtain ⟨H, hHe⟩ : ∃ H, H = S.get := ⟨_, rfl⟩
  obtain ⟨n0, hne⟩ : ∃ n0, n0 = S.next := ⟨_, rfl⟩
  rw [← hHe, ← hne] at hH ⊢
  have hb := hh.b
  have hlen := hb.len
  have hck := check32 h hh
  cases hok : checkB h with
  | false =>
    rw [hok, errno_f] at hck
    have hr : typeF h key = 0 := by rw [typeF, hok]; rfl
    rw [hr]
    ((repeat refine WpM.seq ?_); have z_ex := (And.intro @encHist.eq_1 True.intro); refine WpM.regPE [] [(1, _), (2, _)] (by (refine s_o [(0, _)] rfl rfl rfl z_su rfl q_box z_fp z_ss ?_; refine s_o [] rfl rfl rfl z_su rfl q_move z_fp z_ss ?_; exact wpS_nil ⟨rfl, rfl⟩)) z_su ?_; clear z_ex)
    ((repeat refine WpM.seq ?_); have z_ex := True.intro; refine WpM.regPE [] [(1, _), (2, _), (11, _)] (by (refine s_o [(2, _)] rfl rfl rfl z_su rfl q_load z_fp z_ss ?_; refine s_pure (callOf_eq rfl rfl rfl (mlk_tmp z_lk mlk_nil)) (hck) rfl rfl z_ip z_fp ?_; refine s_o [(10, _)] rfl rfl rfl z_su rfl q_full z_fp z_ss ?_; exact wpS_nil ⟨rfl, rfl⟩)) z_su ?_; clear z_ex)
    ((repeat refine WpM.seq ?_); refine WpM.condT (by (simp (maxSteps := 2000000) (disch := omega) [go_sem, -List.map_map])) ?_)
    ((repeat refine WpM.seq ?_); have z_ex := True.intro; refine WpM.regPE [] [(4, _)] (by (refine s_o [] rfl rfl rfl z_su rfl q_move z_fp z_ss ?_; exact wpS_nil ⟨rfl, rfl⟩)) z_su ?_; clear z_ex)
    refine WpM.ret ?_
    exact ⟨.inr rfl, Upd.done ⟨_, (by (simp (maxSteps := 2000000) (disch := omega) [go_sem, -List.map_map, resV, resVs, resV1])), rfl, fun m k _ hk => by have := hH _ _ hk; (simp (maxSteps := 2000000) (disch := omega) [go_sem, -List.map_map, hk])⟩⟩
  | true =>
    rw [hok, errno_t] at hck
    ((repeat refine WpM.seq ?_); have z_ex := (And.intro @encHist.eq_1 True.intro); refine WpM.regPE [] [(1, _), (2, _)] (by (refine s_o [(0, _)] rfl rfl rfl z_su rfl q_box z_fp z_ss ?_; refine s_o [] rfl rfl rfl z_su rfl q_move z_fp z_ss ?_; exact wpS_nil ⟨rfl, rfl⟩)) z_su ?_; clear z_ex)
    ((repeat refine WpM.seq ?_); have z_ex := True.intro; refine WpM.regPE [] [(1, _), (2, _), (11, _)] (by (refine s_o [(2, _)] rfl rfl rfl z_su rfl q_load z_fp z_ss ?_; refine s_pure (callOf_eq rfl rfl rfl (mlk_tmp z_lk mlk_nil)) (hck) rfl rfl z_ip z_fp ?_; refine s_o [(10, _)] rfl rfl rfl z_su rfl q_full z_fp z_ss ?_; exact wpS_nil ⟨rfl, rfl⟩)) z_su ?_; clear z_ex)
    ((repeat refine WpM.seq ?_); refine WpM.condF (by (simp (maxSteps := 2000000) (disch := omega) [go_sem, -List.map_map])) ?_)
    refine WpM.skip ?_
    ((repeat refine WpM.seq ?_); have z_ex := True.intro; refine WpM.regPE [] [(1, _), (13, _), (14, _), (15, _)] (by (refine s_o [(2, _)] rfl rfl rfl z_su rfl q_fieldAddr z_fp z_ss ?_; refine s_o [(12, _)] rfl rfl rfl z_su rfl q_load z_fp z_ss ?_; refine s_o [(13, _)] rfl rfl rfl z_su rfl q_full z_fp z_ss ?_; refine s_o [] rfl rfl rfl z_su rfl q_move z_fp z_ss ?_; exact wpS_nil ⟨rfl, rfl⟩)) z_su ?_; clear z_ex)
    ((repeat refine WpM.seq ?_); refine WpM.block ?_)
    refine WpM.loop (fun (i : Nat) fr S => i ≤ h.txns.length ∧ (∀ (q : Nat) (hq : q < h.txns.length), q < i → ∀ o ∈ h.txns[q].ops, o.key ≠ key) ∧ (∃ nx, n0 ≤ nx ∧ S = ⟨nx, [], H⟩) ∧ fr = frOf [(1, .d (.int .i64 key)), (13, .d (.sl (h.txns.map encTxn))), (14, .d (.int .i64 h.txns.length)), (15, .d (.int .i64 i))]) (fun i => h.txns.length - i) 0 (le_cut (n0 := n0) (n' := n0 + 9) (l' := []) hH (by (simp (maxSteps := 2000000) (disch := omega) [go_sem, -List.map_map])) (by (simp (maxSteps := 2000000) (disch := omega) [go_sem, -List.map_map])) (by (simp (maxSteps := 2000000) (disch := omega) [go_sem, -List.map_map]))) (Sub.le z_su) ⟨by omega, fun q _ hq => by omega, ⟨_, by omega, rfl⟩, rfl⟩ ?_
    rintro i fr S' ⟨hi, hn, ⟨nx, hnx, rfl⟩, rfl⟩
    ((repeat refine WpM.seq ?_); have z_ex := True.intro; refine WpM.regPE [] [(1, _), (13, _), (14, _), (15, _), (16, _)] (by (refine s_o [(14, _), (15, _)] rfl rfl rfl z_su rfl q_full z_fp z_ss ?_; exact wpS_nil ⟨rfl, rfl⟩)) z_su ?_; clear z_ex)
    by_cases hit : i < h.txns.length
    · ((repeat refine WpM.seq ?_); refine WpM.condT (by (simp (maxSteps := 2000000) (disch := omega) [go_sem, -List.map_map, hit])) ?_)
      refine WpM.skip ?_
      ((repeat refine WpM.seq ?_); refine WpM.block ?_)
      obtain ⟨t, ht⟩ : ∃ t, t = h.txns[i] := ⟨_, rfl⟩
      have hget : (h.txns.map encTxn)[i]? = some (encTxn t) := by simp [hit, ht]
      have hlt := (hb.txns t (ht ▸ List.getElem_mem _)).len
      ((repeat refine WpM.seq ?_); have z_ex := (And.intro @hget (And.intro @encTxn.eq_1 True.intro)); refine WpM.regPE [] [(1, _), (6, _), (13, _), (14, _), (15, _)] (by (refine s_o [(13, _), (15, _)] rfl rfl rfl z_su rfl q_full z_fp z_ss ?_; refine s_o [(17, _)] rfl rfl rfl z_su rfl q_load z_fp z_ss ?_; refine s_o [] rfl rfl rfl z_su rfl q_alloc z_fp z_ss ?_; refine s_o [(6, _), (18, _)] rfl rfl rfl z_su rfl q_store z_fp z_ss ?_; exact wpS_nil ⟨rfl, rfl⟩)) z_su ?_; clear z_ex)
      ((repeat refine WpM.seq ?_); have z_ex := True.intro; refine WpM.regPE [] [(1, _), (13, _), (14, _), (15, _), (20, _), (21, _), (22, _)] (by (refine s_o [(6, _)] rfl rfl rfl z_su rfl q_fieldAddr z_fp z_ss ?_; refine s_o [(19, _)] rfl rfl rfl z_su rfl q_load z_fp z_ss ?_; refine s_o [(20, _)] rfl rfl rfl z_su rfl q_full z_fp z_ss ?_; refine s_o [] rfl rfl rfl z_su rfl q_move z_fp z_ss ?_; exact wpS_nil ⟨rfl, rfl⟩)) z_su ?_; clear z_ex)
      ((repeat refine WpM.seq ?_); refine WpM.block ?_)
      refine WpM.loop (fun (k : Nat) fr S => k ≤ t.ops.length ∧ (∀ (r : Nat) (hr : r < t.ops.length), r < k → t.ops[r].key ≠ key) ∧ (∃ nx, n0 ≤ nx ∧ S = ⟨nx, [], H⟩) ∧ fr = frOf [(1, .d (.int .i64 key)), (13, .d (.sl (h.txns.map encTxn))), (14, .d (.int .i64 h.txns.length)), (15, .d (.int .i64 i)), (20, .d (.sl (t.ops.map encOp))), (21, .d (.int .i64 t.ops.length)), (22, .d (.int .i64 k))]) (fun k => t.ops.length - k) 0 (le_cut (n0 := n0) (n' := nx + 9) (l' := []) hH (by (simp (maxSteps := 2000000) (disch := omega) [go_sem, -List.map_map]); omega) (by (simp (maxSteps := 2000000) (disch := omega) [go_sem, -List.map_map])) (by (simp (maxSteps := 2000000) (disch := omega) [go_sem, -List.map_map]))) (Sub.le z_su) ⟨by omega, fun q _ hq => by omega, ⟨_, by omega, rfl⟩, rfl⟩ ?_
      rintro k fr S' ⟨hk, hn2, ⟨nx2, hnx2, rfl⟩, rfl⟩
      ((repeat refine WpM.seq ?_); have z_ex := True.intro; refine WpM.regPE [] [(1, _), (13, _), (14, _), (15, _), (20, _), (21, _), (22, _), (23, _)] (by (refine s_o [(21, _), (22, _)] rfl rfl rfl z_su rfl q_full z_fp z_ss ?_; exact wpS_nil ⟨rfl, rfl⟩)) z_su ?_; clear z_ex)
      by_cases hkt : k < t.ops.length
      · ((repeat refine WpM.seq ?_); refine WpM.condT (by (simp (maxSteps := 2000000) (disch := omega) [go_sem, -List.map_map, hkt])) ?_)
        refine WpM.skip ?_
        ((repeat refine WpM.seq ?_); refine WpM.block ?_)
        obtain ⟨o, ho⟩ : ∃ o, o = t.ops[k] := ⟨_, rfl⟩
        have hgeto : (t.ops.map encOp)[k]? = some (encOp o) := by simp [hkt, ho]
        ((repeat refine WpM.seq ?_); have z_ex := (And.intro @hgeto (And.intro @encOp.eq_1 True.intro)); refine WpM.regPE [] [(1, _), (8, _), (13, _), (14, _), (15, _), (20, _), (21, _), (22, _)] (by (refine s_o [(20, _), (22, _)] rfl rfl rfl z_su rfl q_full z_fp z_ss ?_; refine s_o [(24, _)] rfl rfl rfl z_su rfl q_load z_fp z_ss ?_; refine s_o [] rfl rfl rfl z_su rfl q_alloc z_fp z_ss ?_; refine s_o [(8, _), (25, _)] rfl rfl rfl z_su rfl q_store z_fp z_ss ?_; exact wpS_nil ⟨rfl, rfl⟩)) z_su ?_; clear z_ex)
        by_cases he : o.key = key
        · obtain ⟨hk1, hk8⟩ := checkB_kind hok hit (o := o) (by rw [← ht, ho]; exact List.getElem_mem _)
          have hty := typeOf57 o.kind hk1 hk8
          have hr : typeF h key = tyOf o.kind := by
            subst ht
            rw [typeF, if_pos hok, type_hit hit hkt hn hn2 (by rw [← ho]; exact he), ho]
          rw [hr]
          ((repeat refine WpM.seq ?_); have z_ex := (And.intro @he True.intro); refine WpM.regPE [] [(1, _), (8, _), (13, _), (14, _), (15, _), (20, _), (21, _), (22, _), (29, _)] (by (refine s_o [(8, _)] rfl rfl rfl z_su rfl q_fieldAddr z_fp z_ss ?_; refine s_o [(26, _)] rfl rfl rfl z_su rfl q_load z_fp z_ss ?_; refine s_o [(1, _)] rfl rfl rfl z_su rfl q_move z_fp z_ss ?_; refine s_o [(27, _), (28, _)] rfl rfl rfl z_su rfl q_full z_fp z_ss ?_; exact wpS_nil ⟨rfl, rfl⟩)) z_su ?_; clear z_ex)
          ((repeat refine WpM.seq ?_); refine WpM.condT (by (simp (maxSteps := 2000000) (disch := omega) [go_sem, -List.map_map, he])) ?_)
          ((repeat refine WpM.seq ?_); have z_ex := True.intro; refine WpM.regPE [] [(4, _)] (by (refine s_o [(8, _)] rfl rfl rfl z_su rfl q_fieldAddr z_fp z_ss ?_; refine s_o [(30, _)] rfl rfl rfl z_su rfl q_load z_fp z_ss ?_; refine s_pure (callOf_eq rfl rfl rfl (mlk_tmp z_lk mlk_nil)) (hty) rfl rfl z_ip z_fp ?_; refine s_o [(32, _)] rfl rfl rfl z_su rfl q_move z_fp z_ss ?_; exact wpS_nil ⟨rfl, rfl⟩)) z_su ?_; clear z_ex)
          refine WpM.ret ?_
          exact ⟨.inr rfl, Upd.done ⟨_, (by (simp (maxSteps := 2000000) (disch := omega) [go_sem, -List.map_map, resV, resVs, resV1])), rfl, fun m k _ hk => by have := hH _ _ hk; (simp (maxSteps := 2000000) (disch := omega) [go_sem, -List.map_map, hk])⟩⟩
        · ((repeat refine WpM.seq ?_); have z_ex := (And.intro @he True.intro); refine WpM.regPE [] [(1, _), (8, _), (13, _), (14, _), (15, _), (20, _), (21, _), (22, _), (29, _)] (by (refine s_o [(8, _)] rfl rfl rfl z_su rfl q_fieldAddr z_fp z_ss ?_; refine s_o [(26, _)] rfl rfl rfl z_su rfl q_load z_fp z_ss ?_; refine s_o [(1, _)] rfl rfl rfl z_su rfl q_move z_fp z_ss ?_; refine s_o [(27, _), (28, _)] rfl rfl rfl z_su rfl q_full z_fp z_ss ?_; exact wpS_nil ⟨rfl, rfl⟩)) z_su ?_; clear z_ex)
          ((repeat refine WpM.seq ?_); refine WpM.condF (by (simp (maxSteps := 2000000) (disch := omega) [go_sem, -List.map_map, he])) ?_)
          refine WpM.skip ?_
          ((repeat refine WpM.seq ?_); have z_ex := (And.intro @wrap_id True.intro); refine WpM.regPE [] [(1, _), (13, _), (14, _), (15, _), (20, _), (21, _), (22, _)] (by (refine s_o [(22, _)] rfl rfl rfl z_su rfl q_full z_fp z_ss ?_; refine s_o [(33, _)] rfl rfl rfl z_su rfl q_move z_fp z_ss ?_; exact wpS_nil ⟨rfl, rfl⟩)) z_su ?_; clear z_ex)
          have hn2' : ∀ (r : Nat) (hr : r < t.ops.length), r < k + 1 → t.ops[r].key ≠ key := fun r hr hlt => by
            rcases Nat.lt_or_ge r k with h1 | h1
            · exact hn2 r hr h1
            · obtain rfl : r = k := by omega
              rw [← ho]; exact he
          exact round_end (x' := k + 1) (le_cut (n0 := n0) (l' := []) hH (by (simp (maxSteps := 2000000) (disch := omega) [go_sem, -List.map_map]); omega) (Nat.le_refl _) (by (simp (maxSteps := 2000000) (disch := omega) [go_sem, -List.map_map]))) (Sub.le z_su) ⟨by omega, hn2', ⟨_, by omega, rfl⟩, rfl⟩ (by omega)
      · ((repeat refine WpM.seq ?_); refine WpM.condF (by (simp (maxSteps := 2000000) (disch := omega) [go_sem, -List.map_map, hkt])) ?_)
        (refine WpM.exit ?_; (repeat (with_reducible (first | refine thenM_exit ?_ | refine blockM_eq ?_ | refine blockM_ne (by decide) ?_))))
        have hn' : ∀ (q : Nat) (hq : q < h.txns.length), q < i + 1 → ∀ o ∈ h.txns[q].ops, o.key ≠ key := fun q hq hlt o ho => by
          rcases Nat.lt_or_ge q i with h1 | h1
          · exact hn q hq h1 o ho
          · obtain rfl : q = i := by omega
            rw [← ht] at ho
            obtain ⟨r, hr, rfl⟩ := List.getElem_of_mem ho
            exact hn2 r hr (by omega)
        ((repeat refine WpM.seq ?_); have z_ex := (And.intro @wrap_id True.intro); refine WpM.regPE [] [(1, _), (13, _), (14, _), (15, _)] (by (refine s_o [(15, _)] rfl rfl rfl z_su rfl q_full z_fp z_ss ?_; refine s_o [(34, _)] rfl rfl rfl z_su rfl q_move z_fp z_ss ?_; exact wpS_nil ⟨rfl, rfl⟩)) z_su ?_; clear z_ex)
        exact round_end (x' := i + 1) (St.Le.refl _) (Sub.le z_su) ⟨by omega, hn', ⟨_, by omega, rfl⟩, rfl⟩ (by omega)
    · ((repeat refine WpM.seq ?_); refine WpM.condF (by (simp (maxSteps := 2000000) (disch := omega) [go_sem, -List.map_map, hit])) ?_)
      (refine WpM.exit ?_; (repeat (with_reducible (first | refine thenM_exit ?_ | refine blockM_eq ?_ | refine blockM_ne (by decide) ?_))))
      have hr : typeF h key = 0 := by rw [typeF, if_pos hok, type_miss fun q hq => hn q hq (by omega)]
      rw [hr]
      ((repeat refine WpM.seq ?_); have z_ex := True.intro; refine WpM.regPE [] [(4, _)] (by (refine s_o [] rfl rfl rfl z_su rfl q_move z_fp z_ss ?_; exact wpS_nil ⟨rfl, rfl⟩)) z_su ?_; clear z_ex)
      refine WpM.ret ?_
      exact ⟨.inr rfl, Upd.done ⟨_, (by (simp (maxSteps := 2000000) (disch := omega) [go_sem, -List.map_map, resV, resVs, resV1])), rfl, fun m k _ hk => by have := hH _ _ hk; (simp (maxSteps := 2000000) (disch := omega) [go_sem, -List.map_map, hk])⟩⟩
end Go.Proofs.Ytjjmedgibcffhaa
/- How a history is built: the pure model. -/
namespace Go.Proofs.Ytjjmedgibcffhaa
open Go.RowKit M
set_option linter.unusedSimpArgs false
set_option linter.unusedVariables false
def entersE (b : Bk) : List CallD → Int → Except Int Bk
  | [], _ => .ok b
  | c :: r, who => match enterB b c who with
    | .ok b' => entersE b' r who
    | .error e => .error e
def opOf (b : Bk) (c : CallD) : OpD := ⟨c.kind, (((findN b.keys c.key).getD 0 : Nat) : Int), c.arg, c.got, c.vals⟩
def callsFor (l : List EventD) (p : PairD) : List CallD := if p.status = 1 then (ev l p.to_.toNat).calls else (ev l p.from_).calls
def txnOf (l : List EventD) (p : PairD) (b : Bk) : TxnD := ⟨(ev l p.from_).proc, p.status, p.from_, p.to_, (callsFor l p).map (opOf b)⟩
def buildStep (l : List EventD) (i : Nat) (p : PairD) (b : Bk) (ts : List TxnD) : Except (Int × Int) (Bk × List TxnD) :=
  if i = 32 then .error (2, p.from_) else match entersE b (ev l p.from_).calls p.from_ with
    | .error e => .error (e, p.from_)
    | .ok b' => .ok (b', ts ++ [txnOf l p b'])
def buildSt (l : List EventD) (ps : List PairD) : Nat → Except (Int × Int) (Bk × List TxnD)
  | 0 => .ok (.empty, [])
  | i + 1 => match buildSt l ps i with
    | .error e => .error e
    | .ok (b, ts) => match ps[i]? with
      | none => .ok (b, ts)
      | some p => buildStep l i p b ts
noncomputable def buildF (l : List EventD) : HistD × Int × Int := match pairsF l with
  | .error e => (⟨[], []⟩, e)
  | .ok ps => match buildSt l ps ps.length with
    | .error e => (⟨[], []⟩, e)
    | .ok (b, ts) => (⟨b.keys, ts⟩, 0, 0)
theorem buildSt_succ {l : List EventD} {ps : List PairD} {i : Nat} {b : Bk} {ts : List TxnD} (h : buildSt l ps i = .ok (b, ts)) (hi : i < ps.length) : buildSt l ps (i + 1) = buildStep l i ps[i] b ts := by
  simp only [buildSt, h, List.getElem?_eq_getElem hi]
theorem buildSt_bad {l : List EventD} {ps : List PairD} {i : Nat} {e : Int × Int} (h : buildSt l ps i = .error e) : ∀ {m : Nat}, i ≤ m → buildSt l ps m = .error e := by
  intro m hm
  induction m with
  | zero => obtain rfl : i = 0 := by omega
            exact h
  | succ m ih =>
    rcases Nat.lt_or_ge m i with h1 | h1
    · obtain rfl : i = m + 1 := by omega
      exact h
    · rw [buildSt, ih h1]
theorem buildF_bad {l : List EventD} {ps : List PairD} {i : Nat} {b : Bk} {ts : List TxnD} {e : Int × Int} (hp : pairsF l = .ok ps) (hi : i < ps.length) (h : buildSt l ps i = .ok (b, ts)) (hs : buildStep l i ps[i] b ts = .error e) : buildF l = (⟨[], []⟩, e) := by
  have h1 : buildSt l ps (i + 1) = .error e := by rw [buildSt_succ h hi]; exact hs
  rw [buildF, hp]
  simp only
  rw [buildSt_bad h1 hi]
theorem buildF_ok {l : List EventD} {ps : List PairD} {b : Bk} {ts : List TxnD} (hp : pairsF l = .ok ps) (h : buildSt l ps ps.length = .ok (b, ts)) : buildF l = (⟨b.keys, ts⟩, 0, 0) := by
  rw [buildF, hp]
  simp only
  rw [h]
theorem entersE_take : ∀ (cs : List CallD) (b : Bk) (who : Int) (k : Nat) (h : k < cs.length) (b1 : Bk), entersE b (cs.take k) who = .ok b1 → entersE b (cs.take (k + 1)) who = enterB b1 cs[k] who
  | c :: r, b, who, 0, _, b1, h1 => by
    simp only [List.take_zero, entersE, Except.ok.injEq] at h1
    subst h1
    simp only [List.take_succ_cons, List.take_zero, entersE, List.getElem_cons_zero]
    cases enterB b c who <;> rfl
  | c :: r, b, who, k + 1, h, b1, h1 => by
    simp only [List.take_succ_cons, entersE, List.getElem_cons_succ] at h1 ⊢
    cases he : enterB b c who with
    | error e => rw [he] at h1; cases h1
    | ok b' =>
      rw [he] at h1
      exact entersE_take r b' who k (by simpa using h) b1 h1
theorem entersE_stop : ∀ (cs : List CallD) (b : Bk) (who : Int) (k : Nat) (e : Int), entersE b (cs.take k) who = .error e → entersE b cs who = .error e
  | [], b, who, k, e, h => by simpa using h
  | c :: r, b, who, 0, e, h => by simp [entersE] at h
  | c :: r, b, who, k + 1, e, h => by
    simp only [List.take_succ_cons, entersE] at h ⊢
    cases he : enterB b c who with
    | error e' => rw [he] at h; exact h
    | ok b' =>
      rw [he] at h
      exact entersE_stop r b' who k e h
theorem entersE_wf : ∀ (cs : List CallD) {b b' : Bk} {n : Nat} {who : Int}, b.Wf n → entersE b cs who = .ok b' → b'.Wf (n + cs.length)
  | [], b, b', n, who, hw, h => by
    simp only [entersE, Except.ok.injEq] at h
    subst h
    exact hw
  | c :: r, b, b', n, who, hw, h => by
    simp only [entersE] at h
    cases he : enterB b c who with
    | error e => rw [he] at h; cases h
    | ok b1 =>
      rw [he] at h
      have := entersE_wf r (enterB_wf hw he) h
      rw [List.length_cons, show n + (r.length + 1) = n + 1 + r.length by omega]
      exact this
/-- Keys stay where they are. -/
def KeysLe (b b' : Bk) : Prop := ∀ s k, findN b.keys s = some k → findN b'.keys s = some k
theorem KeysLe.refl (b : Bk) : KeysLe b b := fun _ _ h => h
theorem KeysLe.trans {a b c : Bk} (h : KeysLe a b) (k : KeysLe b c) : KeysLe a c := fun s i hs => k s i (h s i hs)
theorem enterB_keys {b b' : Bk} {n : Nat} {c : CallD} {who : Int} (hw : b.Wf n) (h : enterB b c who = .ok b') : KeysLe b b' ∧ ∃ k, findN b'.keys c.key = some k := by
  unfold enterB at h
  cases ha : addB b c with
  | none => rw [ha] at h; cases h
  | some p =>
    obtain ⟨b1, k⟩ := p
    rw [ha] at h
    obtain ⟨hw1, hf1⟩ := addB_wf hw ha
    obtain ⟨_, hk⟩ := putB_wf hw1 h
    refine ⟨fun s i hs => ?_, k, by rw [hk]; exact hf1⟩
    rw [hk]
    unfold addB at ha
    split at ha
    · injection ha with ha
      injection ha with ha1 _
      subst ha1
      exact hs
    · rename_i hn
      split at ha
      · cases ha
      · injection ha with ha
        injection ha with ha1 _
        subst ha1
        simp only [Bk.push, findN_push hn]
        split
        · rename_i e
          subst e
          rw [hn] at hs
          cases hs
        · exact hs
theorem entersE_keys : ∀ (cs : List CallD) {b b' : Bk} {n : Nat} {who : Int}, b.Wf n → entersE b cs who = .ok b' → KeysLe b b' ∧ ∀ c ∈ cs, ∃ k, findN b'.keys c.key = some k
  | [], b, b', n, who, hw, h => by
    simp only [entersE, Except.ok.injEq] at h
    subst h
    exact ⟨KeysLe.refl _, by simp⟩
  | c :: r, b, b', n, who, hw, h => by
    simp only [entersE] at h
    cases he : enterB b c who with
    | error e => rw [he] at h; cases h
    | ok b1 =>
      rw [he] at h
      obtain ⟨h1, k, h2⟩ := enterB_keys hw he
      obtain ⟨h3, h4⟩ := entersE_keys r (enterB_wf hw he) h
      refine ⟨h1.trans h3, fun c' hc => ?_⟩
      rcases List.mem_cons.1 hc with rfl | hc
      · exact ⟨k, h3 _ _ h2⟩
      · exact h4 c' hc
theorem listOk_ev {l : List EventD} (h : listOk l = true) {i : Nat} (hi : i < l.length) : eventOk (ev l i) = true := by
  unfold listOk at h
  simp only [Bool.and_eq_true, List.all_eq_true] at h
  rw [ev_eq hi]
  exact h.2 _ (List.getElem_mem _)
theorem match_keys {a b : EventD} (h : matchB a b = true) : ∀ c ∈ b.calls, ∃ c' ∈ a.calls, c'.key = c.key := by
  unfold matchB callsEq at h
  simp only [Bool.and_eq_true, decide_eq_true_eq, List.all_eq_true] at h
  intro c hc
  obtain ⟨i, hi, rfl⟩ := List.getElem_of_mem hc
  have hl := h.2.1
  have hia : i < a.calls.length := by omega
  refine ⟨a.calls[i], List.getElem_mem _, ?_⟩
  have := h.2.2 (a.calls[i], b.calls[i]) (by
    rw [List.mem_iff_getElem]
    exact ⟨i, by simp; omega, by simp⟩)
  simp only [callEq, Bool.and_eq_true, decide_eq_true_eq] at this
  exact M.toList_inj this.1.2
/-- What is known of each pair while a history is built. -/
structure PairOk (l : List EventD) (p : PairD) : Prop where
  frm : p.from_ < l.length
  fok : eventOk (ev l p.from_) = true
  to_ : p.status = 1 → ∃ t : Nat, p.to_ = t ∧ t < l.length ∧ eventOk (ev l t) = true ∧ matchB (ev l p.from_) (ev l t) = true
theorem pair_ok {l : List EventD} {ps : List PairD} (hp : pairsF l = .ok ps) {i : Nat} (hi : i < ps.length) : PairOk l ps[i] := by
  obtain ⟨op, hF⟩ := pairsF_finv hp
  obtain ⟨hok, _⟩ := pairsF_ok hp
  refine ⟨(hF.frm i hi).1, listOk_ev hok (hF.frm i hi).1, fun hs => ?_⟩
  rcases hF.to_ i hi with ⟨_, h3⟩ | ⟨t, h1, h2, h3, h4, h5, h6, h7⟩
  · omega
  · exact ⟨t, h1, h3, listOk_ev hok h3, h7⟩
theorem PairOk.keys {l : List EventD} {p : PairD} (h : PairOk l p) {b b' : Bk} {n : Nat} {who : Int} (hw : b.Wf n) (he : entersE b (ev l p.from_).calls who = .ok b') : ∀ c ∈ callsFor l p, ∃ k, findN b'.keys c.key = some k := by
  have hk := (entersE_keys _ hw he).2
  intro c hc
  unfold callsFor at hc
  split at hc
  · rename_i hs
    obtain ⟨t, h1, h2, h3, h4⟩ := h.to_ hs
    rw [h1] at hc
    obtain ⟨c', hc', e⟩ := match_keys h4 c (by simpa using hc)
    rw [← e]
    exact hk c' hc'
  · exact hk c hc
theorem PairOk.calls16 {l : List EventD} {p : PairD} (h : PairOk l p) : (callsFor l p).length ≤ 16 := by
  unfold callsFor
  split
  · rename_i hs
    obtain ⟨t, h1, h2, h3, h4⟩ := h.to_ hs
    rw [h1]
    exact (eventOk_spec h3).2.2.1
  · exact (eventOk_spec h.fok).2.2.1
theorem PairOk.callOk {l : List EventD} {p : PairD} (h : PairOk l p) : ∀ c ∈ callsFor l p, ∃ ev, callOk c ev = true := by
  intro c hc
  unfold callsFor at hc
  split at hc
  · rename_i hs
    obtain ⟨t, h1, h2, h3, h4⟩ := h.to_ hs
    rw [h1] at hc
    exact ⟨_, (eventOk_spec h3).2.2.2 c (by simpa using hc)⟩
  · exact ⟨_, (eventOk_spec h.fok).2.2.2 c hc⟩
theorem buildSt_wf {l : List EventD} {ps : List PairD} (hp : pairsF l = .ok ps) : ∀ {i : Nat} {b : Bk} {ts : List TxnD}, i ≤ ps.length → buildSt l ps i = .ok (b, ts) → b.Wf (16 * i) ∧ ts.length = i ∧ i ≤ 32
  | 0, b, ts, _, h => by
    simp only [buildSt, Except.ok.injEq, Prod.mk.injEq] at h
    obtain ⟨rfl, rfl⟩ := h
    exact ⟨Bk.Wf.empty, rfl, by omega⟩
  | i + 1, b, ts, hi, h => by
    cases h0 : buildSt l ps i with
    | error e => rw [buildSt, h0] at h; cases h
    | ok s =>
      obtain ⟨b0, ts0⟩ := s
      obtain ⟨hw, hl, h32⟩ := buildSt_wf hp (by omega) h0
      rw [buildSt_succ h0 (by omega)] at h
      have hpo := pair_ok hp (i := i) (by omega)
      unfold buildStep at h
      split at h
      · cases h
      · rename_i hne
        cases he : entersE b0 (ev l ps[i].from_).calls ps[i].from_ with
        | error e => rw [he] at h; cases h
        | ok b1 =>
          rw [he] at h
          simp only [Except.ok.injEq, Prod.mk.injEq] at h
          obtain ⟨rfl, rfl⟩ := h
          have h16 := (eventOk_spec hpo.fok).2.2.1
          obtain ⟨a1, a2, a3, a4, a5, a6⟩ := entersE_wf _ hw he
          exact ⟨⟨a1, a2, a3, a4, fun k => Nat.le_trans (a5 k) (by omega), a6⟩, by simp [hl], by omega⟩
end Go.Proofs.Ytjjmedgibcffhaa
/- index.Build. -/
namespace Go.Proofs.Ytjjmedgibcffhaa
open Go.RowKit M
set_option linter.unusedSimpArgs false
set_option linter.unusedVariables false
/-- What stands while a history is built. -/
structure BInv (At : (Nat → Option Blk) → Nat → Bk → (Nat → Prop) → Prop) (H : Nat → Option Blk) (n0 L nh nr : Nat) (ts : List TxnD) (b : Bk) (O : Nat → Prop) (G : Nat → Option Blk) (nx : Nat) : Prop where
  r2 : G n0 = some (.box [.nil, .nil])
  r3 : G (n0 + 1) = some (.box [.d (.int .i64 0), .d (.int .i64 0)])
  hb : G nh = some (.box [.nil, .ms nr 5 0 ts.length])
  hr : G nr = some (.row 5 (ts.map fun t => .d (encTxn t)))
  led : At G L b O
  oo : ∀ m, O m → n0 + 2 ≤ m ∧ m < nx
  o1 : ¬ O nh
  o2 : ¬ O nr
  l1 : n0 + 2 ≤ nh ∧ nh < nx
  l2 : n0 + 2 ≤ nr ∧ nr < nx
  old : ∀ m k, H m = some k → G m = some k
theorem BInv.enter {At : (Nat → Option Blk) → Nat → Bk → (Nat → Prop) → Prop} {H : Nat → Option Blk} {n0 L nh nr : Nat} {ts : List TxnD} {b b' : Bk} {O O' : Nat → Prop} {G G' : Nat → Option Blk} {nx nx' : Nat} (h : BInv At H n0 L nh nr ts b O G nx)
    (hH : ∀ m k, H m = some k → m < n0) (hnx : nx ≤ nx') (hold : ∀ m k, ¬ O m → G m = some k → G' m = some k) (hO : ∀ m, O' m → (O m ∨ nx ≤ m) ∧ m < nx') (hl : At G' L b' O') : BInv At H n0 L nh nr ts b' O' G' nx' := by
  have hn : ∀ m, m < n0 + 2 → ¬ O m := fun m hm ho => by have := (h.oo m ho).1; omega
  refine ⟨hold _ _ (hn _ (by omega)) h.r2, hold _ _ (hn _ (by omega)) h.r3, hold _ _ h.o1 h.hb, hold _ _ h.o2 h.hr, hl, fun m hm => ?_, fun hm => ?_, fun hm => ?_, ⟨h.l1.1, by have := h.l1.2; omega⟩, ⟨h.l2.1, by have := h.l2.2; omega⟩, fun m k hk => hold m k (hn m (by have := hH m k hk; omega)) (h.old m k hk)⟩
  · obtain ⟨h1, h2⟩ := hO m hm
    refine ⟨?_, h2⟩
    rcases h1 with h1 | h1
    · exact (h.oo m h1).1
    · have := h.l1; omega
  · rcases (hO _ hm).1 with h1 | h1
    · exact h.o1 h1
    · have := h.l1; omega
  · rcases (hO _ hm).1 with h1 | h1
    · exact h.o2 h1
    · have := h.l2; omega
theorem BInv.same {At : (Nat → Option Blk) → Nat → Bk → (Nat → Prop) → Prop} {H : Nat → Option Blk} {n0 L nh nr : Nat} {ts : List TxnD} {b : Bk} {O : Nat → Prop} {G G' : Nat → Option Blk} {nx nx' : Nat} (h : BInv At H n0 L nh nr ts b O G nx)
    (hsame : ∀ {G G' : Nat → Option Blk}, At G L b O → (∀ m k, O m → G m = some k → G' m = some k) → At G' L b O)
    (hH : ∀ m k, H m = some k → m < n0) (hnx : nx ≤ nx') (hold : ∀ m k, m < nx → G m = some k → G' m = some k) : BInv At H n0 L nh nr ts b O G' nx' := by
  have l1 := h.l1
  have l2 := h.l2
  exact ⟨hold _ _ (by omega) h.r2, hold _ _ (by omega) h.r3, hold _ _ l1.2 h.hb, hold _ _ l2.2 h.hr, hsame h.led fun m k ho hk => hold m k (h.oo m ho).2 hk, fun m hm => ⟨(h.oo m hm).1, by have := (h.oo m hm).2; omega⟩, h.o1, h.o2, ⟨l1.1, by omega⟩, ⟨l2.1, by omega⟩,
    fun m k hk => hold m k (by have := hH m k hk; omega) (h.old m k hk)⟩
/-- A transaction more. -/
theorem BInv.push {At : (Nat → Option Blk) → Nat → Bk → (Nat → Prop) → Prop} {H : Nat → Option Blk} {n0 L nh nr nr' : Nat} {ts : List TxnD} {t : TxnD} {b : Bk} {O : Nat → Prop} {G G' : Nat → Option Blk} {nx nx' : Nat} (h : BInv At H n0 L nh nr ts b O G nx)
    (hsame : ∀ {G G' : Nat → Option Blk}, At G L b O → (∀ m k, O m → G m = some k → G' m = some k) → At G' L b O)
    (hH : ∀ m k, H m = some k → m < n0) (hnx : nx ≤ nr') (hnr : nr' < nx') (hb : G' nh = some (.box [.nil, .ms nr' 5 0 (ts.length + 1)])) (hr : G' nr' = some (.row 5 ((ts.map fun t => .d (encTxn t)) ++ [.d (encTxn t)])))
    (hold : ∀ m k, m < nx → m ≠ nh → m ≠ nr → G m = some k → G' m = some k) : BInv At H n0 L nh nr' (ts ++ [t]) b O G' nx' := by
  have l1 := h.l1
  have l2 := h.l2
  refine ⟨hold _ _ (by omega) (by omega) (by omega) h.r2, hold _ _ (by omega) (by omega) (by omega) h.r3, by rw [hb]; simp, by rw [hr]; simp, hsame h.led fun m k ho hk => hold m k (h.oo m ho).2 (fun e => h.o1 (e ▸ ho)) (fun e => h.o2 (e ▸ ho)) hk, fun m hm => ⟨(h.oo m hm).1, by have := (h.oo m hm).2; omega⟩, h.o1, fun hm => by have := (h.oo _ hm).2; omega, ⟨l1.1, by omega⟩, ⟨by omega, by omega⟩,
    fun m k hk => ?_⟩
  have := hH m k hk
  exact hold m k (by omega) (by omega) (by omega) (h.old m k hk)
theorem enter48_in {b : Bk} {n : Nat} (hw : b.Wf n) (c : CallD) (hk1 : 1 ≤ c.kind) (hk8 : c.kind ≤ 8) (who : Int) (res : Except Int Bk) (hres : enterB b c who = res) {L : Nat} {O : Nat → Prop} {G : Nat → Option Blk} {nx : Nat} (hAt : LedAt G L b O) (hO : ∀ m, O m → m < nx) (hGk : ∀ m k, G m = some k → m < nx)
    (nn nq : Nat) (q : Option Blk) (h1 : nx ≤ nq) (h2 : nx ≤ nn) :
    CallM Try.prog 48 [.ptr L 0, .d (.agg [.int .i64 c.kind, .str c.key, .int .i64 c.arg, .bool c.got, .sl (c.vals.map (D.int .i64))]), .d (.int .i64 who)] ⟨nn, [(nq, q)], G⟩ fun r S' => EntP LedAt nx G L O res r S' := by
  have hget : ∀ m, m < nx → St.get ⟨nn, [(nq, q)], G⟩ m = G m := fun m hm => by
    have : m ≠ nq := by omega
    (simp (maxSteps := 2000000) (disch := omega) [go_sem, -List.map_map])
  have hE := enter48 b n hw c hk1 hk8 who L O ⟨nn, [(nq, q)], G⟩ (hAt.same fun m k ho hk => by rw [hget m (hO m ho)]; exact hk) (fun m hm => Nat.lt_of_lt_of_le (hO m hm) h2)
  rw [hres] at hE
  refine hE.mono ?_
  rintro r S' ⟨a1, a2, a3⟩
  refine ⟨Nat.le_trans h2 a1, fun m k ho hk => a2 m k ho (by rw [hget m (hGk m k hk)]; exact hk), ?_⟩
  cases res with
  | error e => exact a3
  | ok b' =>
    obtain ⟨b1, O', b2, b3⟩ := a3
    exact ⟨b1, O', fun m hm => ⟨(b2 m hm).1.imp id (fun h => Nat.le_trans h2 h), (b2 m hm).2⟩, b3⟩
theorem clone49' (c : List Int) (hlen : c.length * 8 ≤ 140737488351232) : PureC Try.prog 49 [.d (.sl (c.map (D.int .i64)))] (.d (.sl (c.map (D.int .i64)))) := by
  refine PureC.of (n := 8) Try.func49 rfl rfl (by simp) (by simp only [argL, Nat.reduceAdd] <;> rfl) rfl ?_
  intro n0 H hH
  cases c with
  | nil =>
    ((repeat refine WpM.seq ?_); have z_ex := True.intro; refine WpM.regPE [] [(0, _)] (by (refine s_o [] rfl rfl rfl z_su rfl q_move z_fp z_ss ?_; exact wpS_nil ⟨rfl, rfl⟩)) z_su ?_; clear z_ex)
    ((repeat refine WpM.seq ?_); have z_ex := True.intro; refine WpM.regP [] ?_; intro K hK; refine s_o [(0, _)] rfl rfl rfl z_su rfl q_move z_fp z_ss ?_; refine wpS_cmp rfl rfl rfl rfl z_lk un44 ?_; intro z_b; refine s_put z_fp ?_; refine s_endE [(0, _), (4, _)] hK z_su ?_; clear hK K; clear z_ex)
    cases z_b with
    | true =>
      ((repeat refine WpM.seq ?_); refine WpM.condT (by (simp (maxSteps := 2000000) (disch := omega) [go_sem, -List.map_map])) ?_)
      ((repeat refine WpM.seq ?_); have z_ex := True.intro; refine WpM.regPE [] [(2, _)] (by (refine s_o [] rfl rfl rfl z_su rfl q_move z_fp z_ss ?_; exact wpS_nil ⟨rfl, rfl⟩)) z_su ?_; clear z_ex)
      refine WpM.ret ?_
      refine ⟨.inr rfl, Upd.pureNil 2 (.inl (by (simp (maxSteps := 2000000) (disch := omega) [go_sem, -List.map_map]))) (Upd.done ?_)⟩
      (simp (maxSteps := 2000000) (disch := omega) [go_sem, -List.map_map, resV, resVs, resV1, fset])
    | false =>
      ((repeat refine WpM.seq ?_); refine WpM.condF (by (simp (maxSteps := 2000000) (disch := omega) [go_sem, -List.map_map])) ?_)
      refine WpM.skip ?_
      ((repeat refine WpM.seq ?_); have z_ex := True.intro; refine WpM.regPE [7] [(2, _)] (by (refine s_o [] rfl rfl rfl z_su rfl q_full z_fp z_ss ?_; refine s_o [(0, _)] rfl rfl rfl z_su rfl q_move z_fp z_ss ?_; refine s_o [(5, _), (6, _)] rfl rfl rfl z_su rfl q_full z_fp z_ss ?_; refine s_o [(7, _)] rfl rfl rfl z_su rfl q_move z_fp z_ss ?_; exact wpS_nil ⟨rfl, rfl⟩)) z_su ?_; clear z_ex)
      (refine WpM.ret ?_; refine ⟨.inr rfl, Upd.done ?_⟩; (simp (maxSteps := 2000000) (disch := omega) [go_sem, -List.map_map, resV, resVs, resV1,]))
  | cons a r =>
    ((repeat refine WpM.seq ?_); have z_ex := True.intro; refine WpM.regPE [] [(0, _)] (by (refine s_o [] rfl rfl rfl z_su rfl q_move z_fp z_ss ?_; exact wpS_nil ⟨rfl, rfl⟩)) z_su ?_; clear z_ex)
    ((repeat refine WpM.seq ?_); have z_ex := True.intro; refine WpM.regPE [] [(0, _), (4, _)] (by (refine s_o [(0, _)] rfl rfl rfl z_su rfl q_move z_fp z_ss ?_; refine s_o [(3, _)] rfl rfl rfl z_su rfl q_full z_fp z_ss ?_; exact wpS_nil ⟨rfl, rfl⟩)) z_su ?_; clear z_ex)
    ((repeat refine WpM.seq ?_); refine WpM.condF (by (simp (maxSteps := 2000000) (disch := omega) [go_sem, -List.map_map])) ?_)
    refine WpM.skip ?_
    simp only [List.length_cons] at hlen
    ((repeat refine WpM.seq ?_); have z_ex := True.intro; refine WpM.regPE [7] [(2, _)] (by (refine s_o [] rfl rfl rfl z_su rfl q_full z_fp z_ss ?_; refine s_o [(0, _)] rfl rfl rfl z_su rfl q_move z_fp z_ss ?_; refine s_o [(5, _), (6, _)] rfl rfl rfl z_su rfl q_full z_fp z_ss ?_; refine s_o [(7, _)] rfl rfl rfl z_su rfl q_move z_fp z_ss ?_; exact wpS_nil ⟨rfl, rfl⟩)) z_su ?_; clear z_ex)
    (refine WpM.ret ?_; refine ⟨.inr rfl, Upd.done ?_⟩; (simp (maxSteps := 2000000) (disch := omega) [go_sem, -List.map_map, resV, resVs, resV1,]))
theorem callsFor_ok {l : List EventD} (hok : SlOk EventOk 40 l) {p : PairD} (h : PairOk l p) : ∀ c ∈ callsFor l p, CallOk c := by
  intro c hc
  unfold callsFor at hc
  split at hc
  · rename_i hs
    obtain ⟨t, h1, h2, h3, h4⟩ := h.to_ hs
    rw [h1, show ((t : Int)).toNat = t by simp, ev_eq h2] at hc
    exact (hok.2 l[t] (List.getElem_mem _)).2.2.2 c hc
  · rw [ev_eq h.frm] at hc
    exact (hok.2 (l[p.from_]'h.frm) (List.getElem_mem _)).2.2.2 c hc
def fltV (e : Int × Int) : V := .d (.agg [.int .i64 e.1, .int .i64 e.2])
/-- What Build answers. -/
noncomputable def buildV (l : List EventD) : V := .tup [.d (encHist (buildF l).1), fltV (buildF l).2]
set_option maxHeartbeats 8000000 in
theorem build28 (l : List EventD) (hok : SlOk EventOk 40 l) : PureC Try.prog 28 [.d (evs l)] (buildV l) := by
  intro S
  refine CallM.pure' (by rfl) (CallM.start (n := 130) Try.func28 rfl rfl (by simp) (by simp only [argL, Nat.reduceAdd] <;> rfl) ?_)
  intro hH
  obtain ⟨H, hHe⟩ : ∃ H, H = S.get := ⟨_, rfl⟩
  obtain ⟨n0, hne⟩ : ∃ n0, n0 = S.next := ⟨_, rfl⟩
  rw [← hHe, ← hne] at hH ⊢
  have hpairs := pairs19 l hok
  ((repeat refine WpM.seq ?_); have z_ex := True.intro; refine WpM.regPE [] [(0, _), (2, _), (3, _)] (by (refine s_o [] rfl rfl rfl z_su rfl q_alloc z_fp z_ss ?_; refine s_o [] rfl rfl rfl z_su rfl q_alloc z_fp z_ss ?_; exact wpS_nil ⟨rfl, rfl⟩)) z_su ?_; clear z_ex)
  cases hp : pairsF l with
  | error e =>
    have hpv : pairsV l = .tup [.d (.sl []), .d (.agg [.int .i64 e.1, .int .i64 e.2])] := by rw [pairsV, hp]; rfl
    have hb : buildV l = .tup [.d (.agg [.sl [], .sl []]), .d (.agg [.int .i64 e.1, .int .i64 e.2])] := by rw [buildV, buildF, hp]; rfl
    rw [hpv] at hpairs
    have hne : e.1 ≠ 0 := by
      obtain ⟨_, ps, h2⟩ | ⟨_, h2⟩ | ⟨j, _, h2, _⟩ := flOf_cases l
      · rw [hp] at h2; cases h2
      · rw [hp] at h2; injection h2 with h2; rw [h2]; decide
      · rw [hp] at h2; injection h2 with h2; rw [h2]; show (40 : Int) ≠ 0; decide
    rw [hb]
    ((repeat refine WpM.seq ?_); have z_ex := True.intro; refine WpM.regPE [] [(0, _), (2, _), (3, _), (4, _), (5, _)] (by (refine s_o [(0, _)] rfl rfl rfl z_su rfl q_move z_fp z_ss ?_; refine s_pure (callOf_eq rfl rfl rfl (mlk_tmp z_lk mlk_nil)) (hpairs) rfl rfl z_ip z_fp ?_; refine s_o [(20, _)] rfl rfl rfl z_su rfl q_move z_fp z_ss ?_; refine s_o [(18, _)] rfl rfl rfl z_su rfl q_extract z_fp z_ss ?_; refine s_o [(18, _)] rfl rfl rfl z_su rfl q_extract z_fp z_ss ?_; refine s_o [] rfl rfl rfl z_su rfl q_alloc z_fp z_ss ?_; refine s_o [(21, _)] rfl rfl rfl z_su rfl q_move z_fp z_ss ?_; refine s_o [(5, _), (22, _)] rfl rfl rfl z_su rfl q_store z_fp z_ss ?_; exact wpS_nil ⟨rfl, rfl⟩)) z_su ?_; clear z_ex)
    ((repeat refine WpM.seq ?_); have z_ex := (And.intro @hne True.intro); refine WpM.regPE [] [(0, _), (2, _), (3, _), (4, _), (5, _), (25, _)] (by (refine s_o [(5, _)] rfl rfl rfl z_su rfl q_fieldAddr z_fp z_ss ?_; refine s_o [(23, _)] rfl rfl rfl z_su rfl q_load z_fp z_ss ?_; refine s_o [(24, _)] rfl rfl rfl z_su rfl q_full z_fp z_ss ?_; exact wpS_nil ⟨rfl, rfl⟩)) z_su ?_; clear z_ex)
    ((repeat refine WpM.seq ?_); refine WpM.condT (by (simp (maxSteps := 2000000) (disch := omega) [go_sem, -List.map_map, hne])) ?_)
    ((repeat refine WpM.seq ?_); have z_ex := True.intro; refine WpM.drwPE [] [(2, _), (3, _)] mixed (by kernel_rfl) (by kernel_rfl) [(1, 2)] (by kernel_rfl) (by (refine d_o [] rfl rfl rfl z_su rfl q_build z_fp z_ss rfl ?_; refine d_o [(5, _)] rfl rfl rfl z_su rfl q_load z_fp z_ss rfl ?_; refine d_o [(2, _), (26, _)] rfl rfl rfl z_su rfl q_store z_fp z_ss rfl ?_; refine d_o [(3, _), (27, _)] rfl rfl rfl z_su rfl q_store z_fp z_ss rfl ?_; exact d_end z_mt z_sn)) z_su ?_; clear z_ex)
    refine WpM.ret ?_
    refine ⟨.inr rfl, Upd.nilIn n0 0 (cs := [.nil, .nil]) (by (simp (maxSteps := 2000000) (disch := omega) [go_sem, -List.map_map])) (.inl rfl) (Upd.nilIn n0 1 (cs := [.d (.sl []), .nil]) (by (simp (maxSteps := 2000000) (disch := omega) [go_sem, -List.map_map])) (.inl rfl) (Upd.done ⟨_, (by (simp (maxSteps := 2000000) (disch := omega) [go_sem, -List.map_map, resV, resVs, resV1])), rfl, fun m k _ hk => ?_⟩))⟩
    have := hH _ _ hk
    (simp (maxSteps := 2000000) (disch := omega) [go_sem, -List.map_map, hk])
  | ok ps =>
    have hpv : pairsV l = .tup [.d (.sl (ps.map encPair)), .d (.agg [.int .i64 0, .int .i64 0])] := by rw [pairsV, hp]; rfl
    rw [hpv] at hpairs
    ((repeat refine WpM.seq ?_); have z_ex := True.intro; refine WpM.regPE [] [(0, _), (2, _), (3, _), (4, _), (5, _)] (by (refine s_o [(0, _)] rfl rfl rfl z_su rfl q_move z_fp z_ss ?_; refine s_pure (callOf_eq rfl rfl rfl (mlk_tmp z_lk mlk_nil)) (hpairs) rfl rfl z_ip z_fp ?_; refine s_o [(20, _)] rfl rfl rfl z_su rfl q_move z_fp z_ss ?_; refine s_o [(18, _)] rfl rfl rfl z_su rfl q_extract z_fp z_ss ?_; refine s_o [(18, _)] rfl rfl rfl z_su rfl q_extract z_fp z_ss ?_; refine s_o [] rfl rfl rfl z_su rfl q_alloc z_fp z_ss ?_; refine s_o [(21, _)] rfl rfl rfl z_su rfl q_move z_fp z_ss ?_; refine s_o [(5, _), (22, _)] rfl rfl rfl z_su rfl q_store z_fp z_ss ?_; exact wpS_nil ⟨rfl, rfl⟩)) z_su ?_; clear z_ex)
    ((repeat refine WpM.seq ?_); have z_ex := True.intro; refine WpM.regPE [] [(0, _), (2, _), (3, _), (4, _), (5, _), (25, _)] (by (refine s_o [(5, _)] rfl rfl rfl z_su rfl q_fieldAddr z_fp z_ss ?_; refine s_o [(23, _)] rfl rfl rfl z_su rfl q_load z_fp z_ss ?_; refine s_o [(24, _)] rfl rfl rfl z_su rfl q_full z_fp z_ss ?_; exact wpS_nil ⟨rfl, rfl⟩)) z_su ?_; clear z_ex)
    ((repeat refine WpM.seq ?_); refine WpM.condF (by (simp (maxSteps := 2000000) (disch := omega) [go_sem, -List.map_map])) ?_)
    refine WpM.skip ?_
    have hps : ps.length ≤ 256 := by have := psOf_len l; rw [hp] at this; exact this
    have hl256 : l.length ≤ 256 := listOk_len (pairsF_ok hp).1
    ((repeat refine WpM.seq ?_); have z_ex := True.intro; refine WpM.regP [] ?_; intro K hK; refine s_call (callOf_eq rfl rfl rfl mlk_nil) (new47 ⟨_, [(n0, some (.box [.nil, .nil])), (n0 + 1, some (.box [.d (.int .i64 0), .d (.int .i64 0)])), (n0 + 6, some (.box [.d (.int .i64 0), .d (.int .i64 0)]))], H⟩) rfl rfl z_ip ?_; rintro _ z_S ⟨L, O, rfl, hLed, hO, hnx1, old⟩; refine s_put z_fp ?_; refine s_o [(28, _)] rfl rfl rfl z_su rfl q_move z_fp z_ss ?_; refine s_endE [(0, _), (2, _), (3, _), (4, _), (6, _)] hK z_su ?_; clear hK K; clear z_ex)
    refine WpM.norm ?_
    intro nx G hnx hG hk
    have hnx : nx = z_S.next + 1 := hnx
    have hG : G = z_S.get := hG
    have hn1 : n0 + 12 ≤ z_S.next := Nat.le_trans (by show n0 + 12 ≤ n0 + _; omega) hnx1
    have hO' : ∀ m, O m → n0 + 12 ≤ m ∧ m < nx := fun m hm => ⟨Nat.le_trans (by show n0 + 12 ≤ n0 + _; omega) (hO m hm).1, by have := (hO m hm).2; omega⟩
    have g2 : G n0 = some (.box [.nil, .nil]) := by rw [hG]; exact old _ _ (by (simp (maxSteps := 2000000) (disch := omega) [go_sem, -List.map_map]))
    have g3 : G (n0 + 1) = some (.box [.d (.int .i64 0), .d (.int .i64 0)]) := by rw [hG]; exact old _ _ (by (simp (maxSteps := 2000000) (disch := omega) [go_sem, -List.map_map]))
    have gH : ∀ m k, H m = some k → G m = some k := fun m k hk => by
      have := hH m k hk
      rw [hG]
      exact old _ _ (by (simp (maxSteps := 2000000) (disch := omega) [go_sem, -List.map_map, hk]))
    have gL : LedAt G L Bk.empty O := by rw [hG]; exact hLed
    clear hLed hO old hnx1 hk
    ((repeat refine WpM.seq ?_); have z_ex := True.intro; refine WpM.regPE [] [(0, _), (2, _), (3, _), (4, _), (6, _), (7, _)] (by (refine s_o [] rfl rfl rfl z_su rfl q_alloc z_fp z_ss ?_; exact wpS_nil ⟨rfl, rfl⟩)) z_su ?_; clear z_ex)
    refine Upd.wp (Upd.ghostIn nx 1 5 (cs := [.nil, .nil]) (by (simp (maxSteps := 2000000) (disch := omega) [go_sem, -List.map_map])) (.inl rfl) (Upd.done ?_))
    refine WpM.less (St.Le.refl _) (frLe_frOf (l := [(0, .d (evs l)), (2, .ptr n0 0), (3, .ptr (n0 + 1) 0), (4, .d (.sl (ps.map encPair))), (6, .ptr L 0), (7, .ptr nx 0)]) (by (simp (maxSteps := 2000000) (disch := omega) [go_sem, -List.map_map]))) ?_
    refine WpM.norm ?_
    intro nx1 G1 hnx1 hG1 hk1
    have hI : BInv LedAt H n0 L nx (nx + 1) [] Bk.empty O G1 nx1 := by
      have hnx1' : nx1 = nx + 2 := hnx1
      refine ⟨by rw [hG1]; (simp (maxSteps := 2000000) (disch := omega) [go_sem, -List.map_map, g2]), by rw [hG1]; (simp (maxSteps := 2000000) (disch := omega) [go_sem, -List.map_map, g3]), by rw [hG1]; (simp (maxSteps := 2000000) (disch := omega) [go_sem, -List.map_map]), by rw [hG1]; (simp (maxSteps := 2000000) (disch := omega) [go_sem, -List.map_map]), gL.same fun m k ho hk => ?_, fun m hm => ⟨by have := (hO' m hm).1; omega, by have := (hO' m hm).2; omega⟩, fun h => by have := (hO' _ h).2; omega, fun h => by have := (hO' _ h).2; omega, by omega, by omega, fun m k hk => ?_⟩
      · have := (hO' m ho).2
        rw [hG1]
        (simp (maxSteps := 2000000) (disch := omega) [go_sem, -List.map_map, hk])
      · have h9 := hH m k hk
        have h8 := gH m k hk
        rw [hG1]
        (simp (maxSteps := 2000000) (disch := omega) [go_sem, -List.map_map, h8])
    clear hG1 hk1 hnx1 g2 g3 gH gL hO' hn1 hnx hG
    obtain ⟨nh, hnh⟩ : ∃ nh, nh = nx := ⟨_, rfl⟩
    obtain ⟨nr, hnr⟩ : ∃ nr, nr = nx + 1 := ⟨_, rfl⟩
    rw [← hnr, ← hnh] at hI
    rw [← hnh]
    clear hnh hnr
    ((repeat refine WpM.seq ?_); have z_ex := True.intro; refine WpM.regPE [] [(0, _), (2, _), (3, _), (6, _), (7, _), (29, _), (30, _), (31, _)] (by (refine s_o [(4, _)] rfl rfl rfl z_su rfl q_move z_fp z_ss ?_; refine s_o [(29, _)] rfl rfl rfl z_su rfl q_full z_fp z_ss ?_; refine s_o [] rfl rfl rfl z_su rfl q_move z_fp z_ss ?_; exact wpS_nil ⟨rfl, rfl⟩)) z_su ?_; clear z_ex)
    ((repeat refine WpM.seq ?_); refine WpM.block ?_)
    refine WpM.loop (fun (i : Nat) fr S => i ≤ ps.length ∧ ∃ nx G b ts O nr, S = ⟨nx, [], G⟩ ∧ buildSt l ps i = .ok (b, ts) ∧ BInv LedAt H n0 L nh nr ts b O G nx ∧ fr = frOf [(0, .d (evs l)), (2, .ptr n0 0), (3, .ptr (n0 + 1) 0), (6, .ptr L 0), (7, .ptr nh 0), (29, .d (.sl (ps.map encPair))), (30, .d (.int .i64 ps.length)), (31, .d (.int .i64 i))]) (fun i => ps.length - i) 0 (St.Le.refl _) (Sub.le z_su) ⟨by omega, _, G1, Bk.empty, [], O, nr, rfl, rfl, hI.same LedAt.same hH (by omega) (fun _ _ _ h => h), rfl⟩ ?_
    clear hI
    rintro i fr S' ⟨hi, nx, G, b, ts, O, nr, rfl, hst, hI, rfl⟩
    refine WpM.known fun hGk => ?_
    have hGk : ∀ m k, G m = some k → m < nx := hGk
    have k2 := hI.r2
    have k3 := hI.r3
    have l1 := hI.l1
    ((repeat refine WpM.seq ?_); have z_ex := True.intro; refine WpM.regPE [] [(0, _), (2, _), (3, _), (6, _), (7, _), (29, _), (30, _), (31, _), (32, _)] (by (refine s_o [(30, _), (31, _)] rfl rfl rfl z_su rfl q_full z_fp z_ss ?_; exact wpS_nil ⟨rfl, rfl⟩)) z_su ?_; clear z_ex)
    by_cases hit : i < ps.length
    · ((repeat refine WpM.seq ?_); refine WpM.condT (by (simp (maxSteps := 2000000) (disch := omega) [go_sem, -List.map_map, hit])) ?_)
      refine WpM.skip ?_
      ((repeat refine WpM.seq ?_); refine WpM.block ?_)
      obtain ⟨p, hpe⟩ : ∃ p, p = ps[i] := ⟨_, rfl⟩
      have hget : (ps.map encPair)[i]? = some (encPair p) := by simp [hit, hpe]
      have hpo := pair_ok hp hit
      rw [← hpe] at hpo
      have bad : ∀ e, buildStep l i p b ts = .error e → buildV l = .tup [.d (.agg [.sl [], .sl []]), .d (.agg [.int .i64 e.1, .int .i64 e.2])] := fun e he => by
        rw [buildV, buildF_bad hp hit hst (by rw [← hpe]; exact he)]
        rfl
      obtain ⟨hw, htl, h32⟩ := buildSt_wf hp (Nat.le_of_lt hit) hst
      ((repeat refine WpM.seq ?_); have z_ex := (And.intro @hget (And.intro @encPair.eq_1 True.intro)); refine WpM.regPE [] [(0, _), (2, _), (3, _), (6, _), (7, _), (8, _), (9, _), (29, _), (30, _), (31, _)] (by (refine s_o [(31, _)] rfl rfl rfl z_su rfl q_move z_fp z_ss ?_; refine s_o [(29, _), (31, _)] rfl rfl rfl z_su rfl q_full z_fp z_ss ?_; refine s_o [(34, _)] rfl rfl rfl z_su rfl q_load z_fp z_ss ?_; refine s_o [] rfl rfl rfl z_su rfl q_alloc z_fp z_ss ?_; refine s_o [(33, _)] rfl rfl rfl z_su rfl q_move z_fp z_ss ?_; refine s_o [(9, _), (35, _)] rfl rfl rfl z_su rfl q_store z_fp z_ss ?_; exact wpS_nil ⟨rfl, rfl⟩)) z_su ?_; clear z_ex)
      by_cases h32' : i = 32
      · rw [bad (2, p.from_) (by rw [buildStep, if_pos h32'])]
        have h32i : (i : Int) = 32 := by omega
        ((repeat refine WpM.seq ?_); have z_ex := (And.intro @h32i True.intro); refine WpM.regPE [] [(0, _), (2, _), (3, _), (6, _), (7, _), (9, _), (29, _), (30, _), (31, _), (37, _)] (by (refine s_o [(8, _)] rfl rfl rfl z_su rfl q_move z_fp z_ss ?_; refine s_o [(36, _)] rfl rfl rfl z_su rfl q_full z_fp z_ss ?_; exact wpS_nil ⟨rfl, rfl⟩)) z_su ?_; clear z_ex)
        ((repeat refine WpM.seq ?_); refine WpM.condT (by (simp (maxSteps := 2000000) (disch := omega) [go_sem, -List.map_map, h32i])) ?_)
        ((repeat refine WpM.seq ?_); have z_ex := (And.intro @k2 (And.intro @k3 True.intro)); refine WpM.drwPE [] [(2, _), (3, _)] mixed (by kernel_rfl) (by kernel_rfl) [(2, 4)] (by kernel_rfl) (by (refine d_o [] rfl rfl rfl z_su rfl q_build z_fp z_ss rfl ?_; refine d_o [(9, _)] rfl rfl rfl z_su rfl q_fieldAddr z_fp z_ss rfl ?_; refine d_o [(39, _)] rfl rfl rfl z_su rfl q_load z_fp z_ss rfl ?_; refine d_o [(40, _)] rfl rfl rfl z_su rfl q_build z_fp z_ss rfl ?_; refine d_o [(2, _), (38, _)] rfl rfl rfl z_su rfl q_store z_fp z_ss rfl ?_; refine d_o [(3, _), (41, _)] rfl rfl rfl z_su rfl q_store z_fp z_ss rfl ?_; exact d_end z_mt z_sn)) z_su ?_; clear z_ex)
        refine WpM.ret ?_
        refine ⟨.inr rfl, Upd.nilIn n0 0 (cs := [.nil, .nil]) (by (simp (maxSteps := 2000000) (disch := omega) [go_sem, -List.map_map])) (.inl rfl) (Upd.nilIn n0 1 (cs := [.d (.sl []), .nil]) (by (simp (maxSteps := 2000000) (disch := omega) [go_sem, -List.map_map])) (.inl rfl) (Upd.done ⟨_, (by (simp (maxSteps := 2000000) (disch := omega) [go_sem, -List.map_map, resV, resVs, resV1])), rfl, fun m k _ hk => ?_⟩))⟩
        have h9 := hH _ _ hk
        have h8 := hI.old m k hk
        (simp (maxSteps := 2000000) (disch := omega) [go_sem, -List.map_map, h8])
      · have h32i : ¬ (i : Int) = 32 := by omega
        ((repeat refine WpM.seq ?_); have z_ex := (And.intro @h32i True.intro); refine WpM.regPE [] [(0, _), (2, _), (3, _), (6, _), (7, _), (9, _), (29, _), (30, _), (31, _), (37, _)] (by (refine s_o [(8, _)] rfl rfl rfl z_su rfl q_move z_fp z_ss ?_; refine s_o [(36, _)] rfl rfl rfl z_su rfl q_full z_fp z_ss ?_; exact wpS_nil ⟨rfl, rfl⟩)) z_su ?_; clear z_ex)
        ((repeat refine WpM.seq ?_); refine WpM.condF (by (simp (maxSteps := 2000000) (disch := omega) [go_sem, -List.map_map, h32i])) ?_)
        refine WpM.skip ?_
        obtain ⟨e, hee⟩ : ∃ e, e = ev l p.from_ := ⟨_, rfl⟩
        have hfl := hpo.frm
        have hgete : (l.map encEvent)[p.from_]? = some (encEvent e) := by rw [hee, ev_eq hfl]; simp [hfl]
        ((repeat refine WpM.seq ?_); have z_ex := (And.intro @evs.eq_1 (And.intro @hgete (And.intro @hfl (And.intro @encEvent.eq_1 True.intro)))); refine WpM.regPE [] [(0, _), (2, _), (3, _), (6, _), (7, _), (9, _), (10, _), (29, _), (30, _), (31, _)] (by (refine s_o [(0, _)] rfl rfl rfl z_su rfl q_move z_fp z_ss ?_; refine s_o [(9, _)] rfl rfl rfl z_su rfl q_fieldAddr z_fp z_ss ?_; refine s_o [(43, _)] rfl rfl rfl z_su rfl q_load z_fp z_ss ?_; refine s_o [(42, _), (44, _)] rfl rfl rfl z_su rfl q_full z_fp z_ss ?_; refine s_o [(45, _)] rfl rfl rfl z_su rfl q_load z_fp z_ss ?_; refine s_o [] rfl rfl rfl z_su rfl q_alloc z_fp z_ss ?_; refine s_o [(10, _), (46, _)] rfl rfl rfl z_su rfl q_store z_fp z_ss ?_; exact wpS_nil ⟨rfl, rfl⟩)) z_su ?_; clear z_ex)
        ((repeat refine WpM.seq ?_); have z_ex := True.intro; refine WpM.regPE [] [(0, _), (2, _), (3, _), (6, _), (7, _), (9, _), (10, _), (29, _), (30, _), (31, _), (48, _), (49, _), (50, _)] (by (refine s_o [(10, _)] rfl rfl rfl z_su rfl q_fieldAddr z_fp z_ss ?_; refine s_o [(47, _)] rfl rfl rfl z_su rfl q_load z_fp z_ss ?_; refine s_o [(48, _)] rfl rfl rfl z_su rfl q_full z_fp z_ss ?_; refine s_o [] rfl rfl rfl z_su rfl q_move z_fp z_ss ?_; exact wpS_nil ⟨rfl, rfl⟩)) z_su ?_; clear z_ex)
        refine WpM.norm ?_
        intro nx2 G2 hnx2 hG2 hk2
        have hnx2 : nx2 = nx + 20 := hnx2
        have hpb : G2 (nx + 4) = some (.box [.d (.int .i64 p.from_), .d (.int .i64 p.to_), .d (.int .i64 p.status)]) := by rw [hG2]; (simp (maxSteps := 2000000) (disch := omega) [go_sem, -List.map_map])
        have heb : G2 (nx + 14) = some (.box [.d (.int .i64 e.proc), .d (.int .i64 e.kind), .d (.sl (e.calls.map encCall))]) := by rw [hG2]; (simp (maxSteps := 2000000) (disch := omega) [go_sem, -List.map_map])
        have hI2 : BInv LedAt H n0 L nh nr ts b O G2 nx2 := hI.same LedAt.same hH (by omega) fun m k hm hk => by rw [hG2]; (simp (maxSteps := 2000000) (disch := omega) [go_sem, -List.map_map, hk])
        have hO1 : ¬ O (nx + 4) := fun h => by have := (hI.oo _ h).2; omega
        have hO2 : ¬ O (nx + 14) := fun h => by have := (hI.oo _ h).2; omega
        have hlp : nx + 4 < nx2 := by omega
        have hlb : nx + 14 < nx2 := by omega
        have hn04 : n0 + 2 ≤ nx + 4 := by omega
        have hl2 : nr < nx + 4 := by have := hI.l2.2; omega
        obtain ⟨np, hnp⟩ : ∃ np, np = nx + 4 := ⟨_, rfl⟩
        obtain ⟨nb, hnb⟩ : ∃ nb, nb = nx + 14 := ⟨_, rfl⟩
        have hnpb : np ≠ nb := by omega
        have hl3 : nr < nb := by omega
        have hl4 : n0 + 2 ≤ nb := by omega
        rw [← hnp] at hpb hO1 hlp hn04 hl2 ⊢
        rw [← hnb] at heb hO2 hlb ⊢
        clear hG2 hk2 hnx2 hI hGk hnp hnb l1 k2 k3 hget hgete
        have hcok := (eventOk_spec hpo.fok).2.2.2
        have h16 := (eventOk_spec hpo.fok).2.2.1
        rw [← hee] at hcok h16
        ((repeat refine WpM.seq ?_); refine WpM.block ?_)
        refine WpM.loop (fun (k : Nat) fr S => k ≤ e.calls.length ∧ ∃ nx G b3 O, S = ⟨nx, [], G⟩ ∧ entersE b (e.calls.take k) p.from_ = .ok b3 ∧ BInv LedAt H n0 L nh nr ts b3 O G nx ∧ G np = some (.box [.d (.int .i64 p.from_), .d (.int .i64 p.to_), .d (.int .i64 p.status)]) ∧ G nb = some (.box [.d (.int .i64 e.proc), .d (.int .i64 e.kind), .d (.sl (e.calls.map encCall))]) ∧ ¬ O np ∧ ¬ O nb ∧ np < nx ∧ nb < nx ∧ fr = frOf [(0, .d (evs l)), (2, .ptr n0 0), (3, .ptr (n0 + 1) 0), (6, .ptr L 0), (7, .ptr nh 0), (9, .ptr np 0), (10, .ptr nb 0), (29, .d (.sl (ps.map encPair))), (30, .d (.int .i64 ps.length)), (31, .d (.int .i64 i)), (48, .d (.sl (e.calls.map encCall))), (49, .d (.int .i64 e.calls.length)), (50, .d (.int .i64 k))]) (fun k => e.calls.length - k) 0 (St.Le.refl _) (Sub.le z_su) ⟨by omega, _, G2, b, O, rfl, rfl, hI2, hpb, heb, hO1, hO2, hlp, hlb, rfl⟩ ?_
        clear hpb heb hI2 hO1 hO2 hlp hlb
        rintro k fr S' ⟨hk, nx3, G, b3, O, rfl, hent, hI, hpb, heb, hO1, hO2, hlp, hlb, rfl⟩
        refine WpM.known fun hGk => ?_
        have hGk : ∀ m k, G m = some k → m < nx3 := hGk
        ((repeat refine WpM.seq ?_); have z_ex := True.intro; refine WpM.regPE [] [(0, _), (2, _), (3, _), (6, _), (7, _), (9, _), (10, _), (29, _), (30, _), (31, _), (48, _), (49, _), (50, _), (51, _)] (by (refine s_o [(49, _), (50, _)] rfl rfl rfl z_su rfl q_full z_fp z_ss ?_; exact wpS_nil ⟨rfl, rfl⟩)) z_su ?_; clear z_ex)
        by_cases hkt : k < e.calls.length
        · ((repeat refine WpM.seq ?_); refine WpM.condT (by (simp (maxSteps := 2000000) (disch := omega) [go_sem, -List.map_map, hkt])) ?_)
          refine WpM.skip ?_
          ((repeat refine WpM.seq ?_); refine WpM.block ?_)
          obtain ⟨c, hc⟩ : ∃ c, c = e.calls[k] := ⟨_, rfl⟩
          have hgetc : (e.calls.map encCall)[k]? = some (encCall c) := by simp [hkt, hc]
          obtain ⟨hk1, hk8⟩ := callOk_kind (hcok c (hc ▸ List.getElem_mem _))
          have hnext := entersE_take e.calls b p.from_ k hkt b3 hent
          rw [← hc] at hnext
          have hwf3 := entersE_wf _ hw hent
          ((repeat refine WpM.seq ?_); have z_ex := (And.intro @hgetc (And.intro @encCall.eq_1 True.intro)); refine WpM.regPE [] [(0, _), (2, _), (3, _), (6, _), (7, _), (9, _), (10, _), (12, _), (29, _), (30, _), (31, _), (48, _), (49, _), (50, _)] (by (refine s_o [(48, _), (50, _)] rfl rfl rfl z_su rfl q_full z_fp z_ss ?_; refine s_o [(52, _)] rfl rfl rfl z_su rfl q_load z_fp z_ss ?_; refine s_o [] rfl rfl rfl z_su rfl q_alloc z_fp z_ss ?_; refine s_o [(12, _), (53, _)] rfl rfl rfl z_su rfl q_store z_fp z_ss ?_; exact wpS_nil ⟨rfl, rfl⟩)) z_su ?_; clear z_ex)
          cases he : enterB b3 c p.from_ with
          | error er =>
            rw [he] at hnext
            have hbv := bad (er, p.from_) (by rw [buildStep, if_neg h32', ← hee, entersE_stop e.calls b p.from_ (k + 1) er hnext])
            rw [hbv]
            ((repeat refine WpM.seq ?_); have z_ex := (And.intro @hpb (And.intro @encCall.eq_1 True.intro)); refine WpM.regP [] ?_; intro K hK; refine s_o [(6, _)] rfl rfl rfl z_su rfl q_move z_fp z_ss ?_; refine s_o [(12, _)] rfl rfl rfl z_su rfl q_load z_fp z_ss ?_; refine s_o [(9, _)] rfl rfl rfl z_su rfl q_fieldAddr z_fp z_ss ?_; refine s_o [(56, _)] rfl rfl rfl z_su rfl q_load z_fp z_ss ?_; refine s_call (callOf_eq rfl rfl rfl (mlk_tmp z_lk (mlk_tmp z_lk (mlk_tmp z_lk mlk_nil)))) (enter48_in hwf3 c hk1 hk8 p.from_ _ he hI.led (fun m hm => (hI.oo m hm).2) hGk _ _ _ (by omega) (by omega)) rfl rfl z_ip ?_; rintro _ z_S ⟨hnx, old, rfl, hne2⟩; refine s_put z_fp ?_; refine s_o [(58, _)] rfl rfl rfl z_su rfl q_move z_fp z_ss ?_; refine s_endE [(0, _), (2, _), (3, _), (6, _), (7, _), (9, _), (10, _), (13, _), (29, _), (30, _), (31, _), (48, _), (49, _), (50, _)] hK z_su ?_; clear hK K; clear z_ex)
            refine WpM.norm ?_
            intro nx4 G4 hnx4 hG4 hk4
            have hnx4 : nx4 = z_S.next + 1 := hnx4
            have hG4 : G4 = z_S.get := hG4
            have o2 : ¬ O n0 := fun h => by have := (hI.oo _ h).1; omega
            have o3 : ¬ O (n0 + 1) := fun h => by have := (hI.oo _ h).1; omega
            have k2 : G4 n0 = some (.box [.nil, .nil]) := by rw [hG4]; exact old n0 _ o2 hI.r2
            have k3 : G4 (n0 + 1) = some (.box [.d (.int .i64 0), .d (.int .i64 0)]) := by rw [hG4]; exact old _ _ o3 hI.r3
            have kp : G4 np = some (.box [.d (.int .i64 p.from_), .d (.int .i64 p.to_), .d (.int .i64 p.status)]) := by rw [hG4]; exact old np _ hO1 hpb
            have kH : ∀ m k, H m = some k → G4 m = some k := fun m k hk => by rw [hG4]; exact old m k (fun h => by have := (hI.oo _ h).1; have := hH m k hk; omega) (hI.old m k hk)
            clear old hG4 hk4 hGk
            ((repeat refine WpM.seq ?_); have z_ex := (And.intro @hne2 True.intro); refine WpM.regPE [] [(0, _), (2, _), (3, _), (6, _), (7, _), (9, _), (10, _), (13, _), (29, _), (30, _), (31, _), (48, _), (49, _), (50, _), (60, _)] (by (refine s_o [(13, _)] rfl rfl rfl z_su rfl q_move z_fp z_ss ?_; refine s_o [(59, _)] rfl rfl rfl z_su rfl q_full z_fp z_ss ?_; exact wpS_nil ⟨rfl, rfl⟩)) z_su ?_; clear z_ex)
            ((repeat refine WpM.seq ?_); refine WpM.condT (by (simp (maxSteps := 2000000) (disch := omega) [go_sem, -List.map_map, hne2])) ?_)
            ((repeat refine WpM.seq ?_); have z_ex := (And.intro @k2 (And.intro @k3 (And.intro @kp True.intro))); refine WpM.drwPE [] [(2, _), (3, _)] mixed (by kernel_rfl) (by kernel_rfl) [(3, 5)] (by kernel_rfl) (by (refine d_o [] rfl rfl rfl z_su rfl q_build z_fp z_ss rfl ?_; refine d_o [(13, _)] rfl rfl rfl z_su rfl q_move z_fp z_ss rfl ?_; refine d_o [(9, _)] rfl rfl rfl z_su rfl q_fieldAddr z_fp z_ss rfl ?_; refine d_o [(63, _)] rfl rfl rfl z_su rfl q_load z_fp z_ss rfl ?_; refine d_o [(62, _), (64, _)] rfl rfl rfl z_su rfl q_build z_fp z_ss rfl ?_; refine d_o [(2, _), (61, _)] rfl rfl rfl z_su rfl q_store z_fp z_ss rfl ?_; refine d_o [(3, _), (65, _)] rfl rfl rfl z_su rfl q_store z_fp z_ss rfl ?_; exact d_end z_mt z_sn)) z_su ?_; clear z_ex)
            refine WpM.ret ?_
            refine ⟨.inr rfl, Upd.nilIn n0 0 (cs := [.nil, .nil]) (by (simp (maxSteps := 2000000) (disch := omega) [go_sem, -List.map_map])) (.inl rfl) (Upd.nilIn n0 1 (cs := [.d (.sl []), .nil]) (by (simp (maxSteps := 2000000) (disch := omega) [go_sem, -List.map_map])) (.inl rfl) (Upd.done ⟨_, (by (simp (maxSteps := 2000000) (disch := omega) [go_sem, -List.map_map, resV, resVs, resV1])), rfl, fun m k _ hk => ?_⟩))⟩
            have h9 := hH _ _ hk
            have h8 := kH m k hk
            (simp (maxSteps := 2000000) (disch := omega) [go_sem, -List.map_map, h8])
          | ok b4 =>
            rw [he] at hnext
            ((repeat refine WpM.seq ?_); have z_ex := (And.intro @hpb (And.intro @encCall.eq_1 True.intro)); refine WpM.regP [] ?_; intro K hK; refine s_o [(6, _)] rfl rfl rfl z_su rfl q_move z_fp z_ss ?_; refine s_o [(12, _)] rfl rfl rfl z_su rfl q_load z_fp z_ss ?_; refine s_o [(9, _)] rfl rfl rfl z_su rfl q_fieldAddr z_fp z_ss ?_; refine s_o [(56, _)] rfl rfl rfl z_su rfl q_load z_fp z_ss ?_; refine s_call (callOf_eq rfl rfl rfl (mlk_tmp z_lk (mlk_tmp z_lk (mlk_tmp z_lk mlk_nil)))) (enter48_in hwf3 c hk1 hk8 p.from_ _ he hI.led (fun m hm => (hI.oo m hm).2) hGk _ _ _ (by omega) (by omega)) rfl rfl z_ip ?_; rintro _ z_S ⟨hnx, old, rfl, O4, hO4, hLed4⟩; refine s_put z_fp ?_; refine s_o [(58, _)] rfl rfl rfl z_su rfl q_move z_fp z_ss ?_; refine s_endE [(0, _), (2, _), (3, _), (6, _), (7, _), (9, _), (10, _), (13, _), (29, _), (30, _), (31, _), (48, _), (49, _), (50, _)] hK z_su ?_; clear hK K; clear z_ex)
            refine WpM.norm ?_
            intro nx4 G4 hnx4 hG4 hk4
            have hnx4 : nx4 = z_S.next + 1 := hnx4
            have hG4 : G4 = z_S.get := hG4
            have hI4 : BInv LedAt H n0 L nh nr ts b4 O4 G4 nx4 := by
              refine hI.enter hH (by omega) (fun m k ho hk => by rw [hG4]; exact old m k ho hk) (fun m hm => ?_) (by rw [hG4]; exact hLed4)
              have := hO4 m hm
              exact ⟨this.1, by omega⟩
            have kp := old np _ hO1 hpb
            have ke := old nb _ hO2 heb
            rw [← hG4] at kp ke
            have p1 : ¬ O4 np := fun h => by
              rcases (hO4 np h).1 with h1 | h1
              · exact hO1 h1
              · omega
            have p2 : ¬ O4 nb := fun h => by
              rcases (hO4 nb h).1 with h1 | h1
              · exact hO2 h1
              · omega
            clear old hG4 hk4 hO4 hLed4 hI hpb heb hO1 hO2
            ((repeat refine WpM.seq ?_); have z_ex := True.intro; refine WpM.regPE [] [(0, _), (2, _), (3, _), (6, _), (7, _), (9, _), (10, _), (13, _), (29, _), (30, _), (31, _), (48, _), (49, _), (50, _), (60, _)] (by (refine s_o [(13, _)] rfl rfl rfl z_su rfl q_move z_fp z_ss ?_; refine s_o [(59, _)] rfl rfl rfl z_su rfl q_full z_fp z_ss ?_; exact wpS_nil ⟨rfl, rfl⟩)) z_su ?_; clear z_ex)
            ((repeat refine WpM.seq ?_); refine WpM.condF (by (simp (maxSteps := 2000000) (disch := omega) [go_sem, -List.map_map])) ?_)
            refine WpM.skip ?_
            ((repeat refine WpM.seq ?_); have z_ex := (And.intro @wrap_id True.intro); refine WpM.regPE [] [(0, _), (2, _), (3, _), (6, _), (7, _), (9, _), (10, _), (29, _), (30, _), (31, _), (48, _), (49, _), (50, _)] (by (refine s_o [(50, _)] rfl rfl rfl z_su rfl q_full z_fp z_ss ?_; refine s_o [(66, _)] rfl rfl rfl z_su rfl q_move z_fp z_ss ?_; exact wpS_nil ⟨rfl, rfl⟩)) z_su ?_; clear z_ex)
            exact round_end (x' := k + 1) (St.Le.refl _) (Sub.le z_su) ⟨by omega, _, G4, b4, O4, rfl, hnext, hI4.same LedAt.same hH (by omega) (fun _ _ _ h => h), kp, ke, p1, p2, by omega, by omega, rfl⟩ (by omega)
        · ((repeat refine WpM.seq ?_); refine WpM.condF (by (simp (maxSteps := 2000000) (disch := omega) [go_sem, -List.map_map, hkt])) ?_)
          (refine WpM.exit ?_; (repeat (with_reducible (first | refine thenM_exit ?_ | refine blockM_eq ?_ | refine blockM_ne (by decide) ?_))))
          obtain rfl : k = e.calls.length := by omega
          rw [List.take_length] at hent
          have hkeys := hpo.keys hw (by rw [← hee]; exact hent)
          have hcvs := callsFor_ok hok hpo
          have hcl16 := hpo.calls16
          have hstep : buildStep l i p b ts = .ok (b3, ts ++ [txnOf l p b3]) := by rw [buildStep, if_neg h32', ← hee, hent]
          have hnextst : buildSt l ps (i + 1) = .ok (b3, ts ++ [txnOf l p b3]) := by rw [buildSt_succ hst hit, ← hpe]; exact hstep
          clear bad hstep hcok hst
          ((repeat refine WpM.seq ?_); have z_ex := (And.intro @heb (And.intro @hpb True.intro)); refine WpM.regPE [] [(0, _), (2, _), (3, _), (6, _), (7, _), (9, _), (10, _), (14, _), (29, _), (30, _), (31, _)] (by (refine s_o [(10, _)] rfl rfl rfl z_su rfl q_fieldAddr z_fp z_ss ?_; refine s_o [(67, _)] rfl rfl rfl z_su rfl q_load z_fp z_ss ?_; refine s_o [(9, _)] rfl rfl rfl z_su rfl q_fieldAddr z_fp z_ss ?_; refine s_o [(69, _)] rfl rfl rfl z_su rfl q_load z_fp z_ss ?_; refine s_o [(9, _)] rfl rfl rfl z_su rfl q_fieldAddr z_fp z_ss ?_; refine s_o [(71, _)] rfl rfl rfl z_su rfl q_load z_fp z_ss ?_; refine s_o [(9, _)] rfl rfl rfl z_su rfl q_fieldAddr z_fp z_ss ?_; refine s_o [(73, _)] rfl rfl rfl z_su rfl q_load z_fp z_ss ?_; refine s_o [(68, _), (70, _), (72, _), (74, _)] rfl rfl rfl z_su rfl q_build z_fp z_ss ?_; refine s_o [] rfl rfl rfl z_su rfl q_alloc z_fp z_ss ?_; refine s_o [(14, _), (75, _)] rfl rfl rfl z_su rfl q_store z_fp z_ss ?_; exact wpS_nil ⟨rfl, rfl⟩)) z_su ?_; clear z_ex)
          refine Upd.wp (Upd.ghostIn (nx3 + 10) 4 5 (cs := [.d (.int .i64 e.proc), .d (.int .i64 p.status), .d (.int .i64 p.from_), .d (.int .i64 p.to_), .nil]) (by (simp (maxSteps := 2000000) (disch := omega) [go_sem, -List.map_map])) (.inl (by rfl)) (Upd.done ?_))
          refine WpM.less (le_cut (n0 := nx3) (n' := nx3 + 13) (l' := [(nx3 + 10, some (.box [.d (.int .i64 e.proc), .d (.int .i64 p.status), .d (.int .i64 p.from_), .d (.int .i64 p.to_), .ms (nx3 + 12) 5 0 0])), (nx3 + 12, some (.row 5 []))]) hGk (by (simp (maxSteps := 2000000) (disch := omega) [go_sem, -List.map_map])) (Nat.le_refl _) (by (simp (maxSteps := 2000000) (disch := omega) [go_sem, -List.map_map]))) (Sub.le (l' := [(0, .d (evs l)), (2, .ptr n0 0), (3, .ptr (n0 + 1) 0), (6, .ptr L 0), (7, .ptr nh 0), (9, .ptr np 0), (10, .ptr nb 0), (14, .ptr (nx3 + 10) 0), (29, .d (.sl (ps.map encPair))), (30, .d (.int .i64 ps.length)), (31, .d (.int .i64 i))]) z_su) ?_
          ((repeat refine WpM.seq ?_); have z_ex := (And.intro @heb True.intro); refine WpM.regPE [] [(0, _), (2, _), (3, _), (6, _), (7, _), (9, _), (14, _), (15, _), (29, _), (30, _), (31, _)] (by (refine s_o [(10, _)] rfl rfl rfl z_su rfl q_fieldAddr z_fp z_ss ?_; refine s_o [(76, _)] rfl rfl rfl z_su rfl q_load z_fp z_ss ?_; refine s_o [(77, _)] rfl rfl rfl z_su rfl q_move z_fp z_ss ?_; exact wpS_nil ⟨rfl, rfl⟩)) z_su ?_; clear z_ex)
          obtain ⟨cs, hcs⟩ : ∃ cs, cs = callsFor l p := ⟨_, rfl⟩
          rw [← hcs] at hkeys hcvs hcl16
          refine WpM.seq ?_
          refine wpMid (Mid := fun (fr : Fr) (S' : St) => ∃ nx5, nx3 + 13 ≤ nx5 ∧ S' = ⟨nx5, [(nx3 + 10, some (.box [.d (.int .i64 e.proc), .d (.int .i64 p.status), .d (.int .i64 p.from_), .d (.int .i64 p.to_), .ms (nx3 + 12) 5 0 0])), (nx3 + 12, some (.row 5 []))], G⟩ ∧ FrLe fr (frOf [(0, .d (evs l)), (2, .ptr n0 0), (3, .ptr (n0 + 1) 0), (6, .ptr L 0), (7, .ptr nh 0), (14, .ptr (nx3 + 10) 0), (29, .d (.sl (ps.map encPair))), (30, .d (.int .i64 ps.length)), (31, .d (.int .i64 i)), (15, .d (.sl (cs.map encCall)))])) ?_ ?_
          · by_cases hs1 : p.status = 1
            · obtain ⟨t, ht1, ht2, ht3, ht4⟩ := hpo.to_ hs1
              have hcf : cs = (ev l t).calls := by rw [hcs, callsFor, if_pos hs1, ht1]; simp
              obtain ⟨e2, he2⟩ : ∃ e2, e2 = ev l t := ⟨_, rfl⟩
              have hgete2 : (l.map encEvent)[t]? = some (encEvent e2) := by rw [he2, ev_eq ht2]; simp [ht2]
              rw [← he2] at hcf
              subst hcf
              ((repeat refine WpM.seq ?_); have z_ex := (And.intro @hpb (And.intro @hs1 True.intro)); refine WpM.regPE [] [(0, _), (2, _), (3, _), (6, _), (7, _), (9, _), (14, _), (15, _), (29, _), (30, _), (31, _), (80, _)] (by (refine s_o [(9, _)] rfl rfl rfl z_su rfl q_fieldAddr z_fp z_ss ?_; refine s_o [(78, _)] rfl rfl rfl z_su rfl q_load z_fp z_ss ?_; refine s_o [(79, _)] rfl rfl rfl z_su rfl q_full z_fp z_ss ?_; exact wpS_nil ⟨rfl, rfl⟩)) z_su ?_; clear z_ex)
              ((repeat refine WpM.seq ?_); refine WpM.condT (by (simp (maxSteps := 2000000) (disch := omega) [go_sem, -List.map_map, hs1])) ?_)
              ((repeat refine WpM.seq ?_); have z_ex := (And.intro @hpb (And.intro @ht1 (And.intro @evs.eq_1 (And.intro @hgete2 (And.intro @ht2 (And.intro @encEvent.eq_1 True.intro)))))); refine WpM.regPE [] [(0, _), (2, _), (3, _), (6, _), (7, _), (14, _), (15, _), (29, _), (30, _), (31, _)] (by (refine s_o [(0, _)] rfl rfl rfl z_su rfl q_move z_fp z_ss ?_; refine s_o [(9, _)] rfl rfl rfl z_su rfl q_fieldAddr z_fp z_ss ?_; refine s_o [(82, _)] rfl rfl rfl z_su rfl q_load z_fp z_ss ?_; refine s_o [(81, _), (83, _)] rfl rfl rfl z_su rfl q_full z_fp z_ss ?_; refine s_o [(84, _)] rfl rfl rfl z_su rfl q_fieldAddr z_fp z_ss ?_; refine s_o [(85, _)] rfl rfl rfl z_su rfl q_load z_fp z_ss ?_; refine s_o [(86, _)] rfl rfl rfl z_su rfl q_move z_fp z_ss ?_; exact wpS_nil ⟨rfl, rfl⟩)) z_su ?_; clear z_ex)
              exact ⟨_, (by show nx3 + 13 ≤ nx3 + _; omega), rfl, Sub.le z_su⟩
            · have hcf : cs = e.calls := by rw [hcs, callsFor, if_neg hs1, hee]
              subst hcf
              ((repeat refine WpM.seq ?_); have z_ex := (And.intro @hpb (And.intro @hs1 True.intro)); refine WpM.regPE [] [(0, _), (2, _), (3, _), (6, _), (7, _), (9, _), (14, _), (15, _), (29, _), (30, _), (31, _), (80, _)] (by (refine s_o [(9, _)] rfl rfl rfl z_su rfl q_fieldAddr z_fp z_ss ?_; refine s_o [(78, _)] rfl rfl rfl z_su rfl q_load z_fp z_ss ?_; refine s_o [(79, _)] rfl rfl rfl z_su rfl q_full z_fp z_ss ?_; exact wpS_nil ⟨rfl, rfl⟩)) z_su ?_; clear z_ex)
              ((repeat refine WpM.seq ?_); refine WpM.condF (by (simp (maxSteps := 2000000) (disch := omega) [go_sem, -List.map_map, hs1])) ?_)
              refine WpM.skip ?_
              exact ⟨_, (by show nx3 + 13 ≤ nx3 + _; omega), rfl, Sub.le z_su⟩
          rintro fr S' ⟨nx5, hnx5, rfl, hfr⟩
          refine WpM.less (St.Le.refl _) hfr ?_
          clear hfr hpb heb hO1 hO2 hlp hlb
          ((repeat refine WpM.seq ?_); have z_ex := True.intro; refine WpM.regPE [] [(0, _), (2, _), (3, _), (6, _), (7, _), (14, _), (29, _), (30, _), (31, _), (87, _), (88, _), (89, _)] (by (refine s_o [(15, _)] rfl rfl rfl z_su rfl q_move z_fp z_ss ?_; refine s_o [(87, _)] rfl rfl rfl z_su rfl q_full z_fp z_ss ?_; refine s_o [] rfl rfl rfl z_su rfl q_move z_fp z_ss ?_; exact wpS_nil ⟨rfl, rfl⟩)) z_su ?_; clear z_ex)
          ((repeat refine WpM.seq ?_); refine WpM.block ?_)
          obtain ⟨nk, na, nt, nf, ni, am, fm, im, r, hN⟩ := hI.led
          have kL := hN.box
          have kA := hN.gat
          have gL : L < nx3 := (hI.oo _ hN.oL).2
          have gA : na < nx3 := (hI.oo _ hN.oa).2
          have hat := hN.at_
          have hst' : ∀ c : CallD, encOp (opOf b3 c) = .agg [.int .i64 c.kind, .int .i64 (((findN b3.keys c.key).getD 0 : Nat) : Int), .int .i64 c.arg, .bool c.got, .sl (c.vals.map (D.int .i64))] := fun c => rfl
          clear hN
          refine WpM.loop (fun (k : Nat) fr S => k ≤ cs.length ∧ ∃ nx nr2 ys, nx3 + 12 ≤ nr2 ∧ nr2 < nx ∧ ys = ((cs.take k).map fun c => V.d (encOp (opOf b3 c))) ∧ fr = frOf [(0, .d (evs l)), (2, .ptr n0 0), (3, .ptr (n0 + 1) 0), (6, .ptr L 0), (7, .ptr nh 0), (14, .ptr (nx3 + 10) 0), (29, .d (.sl (ps.map encPair))), (30, .d (.int .i64 ps.length)), (31, .d (.int .i64 i)), (87, .d (.sl (cs.map encCall))), (88, .d (.int .i64 cs.length)), (89, .d (.int .i64 k))] ∧ S = ⟨nx, [(nx3 + 10, some (.box [.d (.int .i64 e.proc), .d (.int .i64 p.status), .d (.int .i64 p.from_), .d (.int .i64 p.to_), .ms nr2 5 0 ys.length])), (nr2, some (.row 5 ys))], G⟩) (fun k => cs.length - k) 0 (St.Le.refl _) (Sub.le z_su) ⟨by omega, _, nx3 + 12, [], by omega, by show nx3 + 12 < nx5 + _; omega, by simp, rfl, rfl⟩ ?_
          rintro k fr S' ⟨hk, nx6, nr2, ys, hnr, hnx6, hys, rfl, rfl⟩
          have hyl : ys.length = k := by rw [hys]; simp; omega
          ((repeat refine WpM.seq ?_); have z_ex := True.intro; refine WpM.regPE [] [(0, _), (2, _), (3, _), (6, _), (7, _), (14, _), (29, _), (30, _), (31, _), (87, _), (88, _), (89, _), (90, _)] (by (refine s_o [(88, _), (89, _)] rfl rfl rfl z_su rfl q_full z_fp z_ss ?_; exact wpS_nil ⟨rfl, rfl⟩)) z_su ?_; clear z_ex)
          by_cases hkt : k < cs.length
          · ((repeat refine WpM.seq ?_); refine WpM.condT (by (simp (maxSteps := 2000000) (disch := omega) [go_sem, -List.map_map, hkt])) ?_)
            refine WpM.skip ?_
            ((repeat refine WpM.seq ?_); refine WpM.block ?_)
            obtain ⟨c, hc⟩ : ∃ c, c = cs[k] := ⟨_, rfl⟩
            have hgetc : (cs.map encCall)[k]? = some (encCall c) := by simp [hkt, hc]
            obtain ⟨kk, hkk⟩ := hkeys c (hc ▸ List.getElem_mem _)
            have hatc : am (.str c.key) = some (.d (.int .i64 kk)) := by rw [hat, hkk]; rfl
            have hcl := clone49' c.vals (hcvs c (hc ▸ List.getElem_mem _)).2.2.2.1
            have hys' : ys ++ [V.d (encOp (opOf b3 c))] = (cs.take (k + 1)).map (fun c => V.d (encOp (opOf b3 c))) := by rw [hys, List.take_succ_eq_append_getElem hkt, ← hc]; simp
            rw [hst' c, hkk, Option.getD_some] at hys'
            ((repeat refine WpM.seq ?_); have z_ex := (And.intro @hgetc (And.intro @encCall.eq_1 True.intro)); refine WpM.regPE [] [(0, _), (2, _), (3, _), (6, _), (7, _), (14, _), (17, _), (29, _), (30, _), (31, _), (87, _), (88, _), (89, _)] (by (refine s_o [(87, _), (89, _)] rfl rfl rfl z_su rfl q_full z_fp z_ss ?_; refine s_o [(91, _)] rfl rfl rfl z_su rfl q_load z_fp z_ss ?_; refine s_o [] rfl rfl rfl z_su rfl q_alloc z_fp z_ss ?_; refine s_o [(17, _), (92, _)] rfl rfl rfl z_su rfl q_store z_fp z_ss ?_; exact wpS_nil ⟨rfl, rfl⟩)) z_su ?_; clear z_ex)
            ((repeat refine WpM.seq ?_); have z_ex := (And.intro @kL (And.intro @kA (And.intro @hatc True.intro))); refine WpM.drwPE [] [(0, _), (2, _), (3, _), (6, _), (7, _), (14, _), (29, _), (30, _), (31, _), (87, _), (88, _), (89, _)] mixed (by kernel_rfl) (by kernel_rfl) [(1, 17), (3, 17), (7, 17), (9, 17), (10, 17), (12, 17), (14, 17), (1, 19)] (by kernel_rfl) (by (refine d_o [(14, _)] rfl rfl rfl z_su rfl q_fieldAddr z_fp z_ss rfl ?_; refine d_o [(93, _)] rfl rfl rfl z_su rfl q_load z_fp z_ss rfl ?_; refine d_o [(17, _)] rfl rfl rfl z_su rfl q_fieldAddr z_fp z_ss rfl ?_; refine d_o [(95, _)] rfl rfl rfl z_su rfl q_load z_fp z_ss rfl ?_; refine d_o [(6, _)] rfl rfl rfl z_su rfl q_move z_fp z_ss rfl ?_; refine d_o [(97, _)] rfl rfl rfl z_su rfl q_move z_fp z_ss rfl ?_; refine d_o [(98, _)] rfl rfl rfl z_su rfl q_fieldAddr z_fp z_ss rfl ?_; refine d_o [(99, _)] rfl rfl rfl z_su rfl q_load z_fp z_ss rfl ?_; refine d_o [(17, _)] rfl rfl rfl z_su rfl q_fieldAddr z_fp z_ss rfl ?_; refine d_o [(101, _)] rfl rfl rfl z_su rfl q_load z_fp z_ss rfl ?_; refine d_o [(100, _), (102, _)] rfl rfl rfl z_su rfl q_lookup z_fp z_ss rfl ?_; refine d_o [(17, _)] rfl rfl rfl z_su rfl q_fieldAddr z_fp z_ss rfl ?_; refine d_o [(104, _)] rfl rfl rfl z_su rfl q_load z_fp z_ss rfl ?_; refine d_o [(17, _)] rfl rfl rfl z_su rfl q_fieldAddr z_fp z_ss rfl ?_; refine d_o [(106, _)] rfl rfl rfl z_su rfl q_load z_fp z_ss rfl ?_; refine d_o [(17, _)] rfl rfl rfl z_su rfl q_fieldAddr z_fp z_ss rfl ?_; refine d_o [(108, _)] rfl rfl rfl z_su rfl q_load z_fp z_ss rfl ?_; refine d_pure (callOf_eq rfl rfl rfl (mlk_tmp z_lk mlk_nil)) (hcl) rfl rfl z_ip rfl z_fp ?_; refine d_o [(96, _), (103, _), (105, _), (107, _), (110, _)] rfl rfl rfl z_su rfl q_build z_fp z_ss rfl ?_; refine d_o [(111, _)] rfl rfl rfl z_su rfl q_full z_fp z_ss rfl ?_; refine d_o [(94, _), (112, _)] rfl rfl rfl z_su rfl q_full z_fp z_ss rfl ?_; refine d_o [(14, _)] rfl rfl rfl z_su rfl q_fieldAddr z_fp z_ss rfl ?_; refine d_o [(113, _), (114, _)] rfl rfl rfl z_su rfl q_store z_fp z_ss rfl ?_; exact d_end z_mt z_sn)) z_su ?_; clear z_ex)
            ((repeat refine WpM.seq ?_); have z_ex := (And.intro @wrap_id True.intro); refine WpM.regPE [] [(0, _), (2, _), (3, _), (6, _), (7, _), (14, _), (29, _), (30, _), (31, _), (87, _), (88, _), (89, _)] (by (refine s_o [(89, _)] rfl rfl rfl z_su rfl q_full z_fp z_ss ?_; refine s_o [(115, _)] rfl rfl rfl z_su rfl q_move z_fp z_ss ?_; exact wpS_nil ⟨rfl, rfl⟩)) z_su ?_; clear z_ex)
            exact round_end (x' := k + 1) (le_cut (n0 := nx3) (l' := [(nx3 + 10, some (.box [.d (.int .i64 e.proc), .d (.int .i64 p.status), .d (.int .i64 p.from_), .d (.int .i64 p.to_), .ms (nx6 + 25) 5 0 (ys.length + 1)])), (nx6 + 25, some (.row 5 (ys ++ [V.d (.agg [.int .i64 c.kind, .int .i64 kk, .int .i64 c.arg, .bool c.got, .sl (c.vals.map (D.int .i64))])])))]) hGk (by (simp (maxSteps := 2000000) (disch := omega) [go_sem, -List.map_map]); omega) (Nat.le_refl _) (by (simp (maxSteps := 2000000) (disch := omega) [go_sem, -List.map_map]))) (Sub.le z_su) ⟨by omega, nx6 + 30, nx6 + 25, _, by omega, by omega, hys', rfl, by (simp (maxSteps := 2000000) (disch := omega) [go_sem, -List.map_map])⟩ (by omega)
          · ((repeat refine WpM.seq ?_); refine WpM.condF (by (simp (maxSteps := 2000000) (disch := omega) [go_sem, -List.map_map, hkt])) ?_)
            (refine WpM.exit ?_; (repeat (with_reducible (first | refine thenM_exit ?_ | refine blockM_eq ?_ | refine blockM_ne (by decide) ?_))))
            obtain rfl : k = cs.length := by omega
            rw [List.take_length] at hys
            have htx : encTxn (txnOf l p b3) = .agg [.int .i64 e.proc, .int .i64 p.status, .int .i64 p.from_, .int .i64 p.to_, .sl (cs.map fun c => encOp (opOf b3 c))] := by simp [encTxn, txnOf, ← hcs, ← hee, List.map_map, Function.comp_def]
            have k5 := hI.hb
            have k6 := hI.hr
            have hn2 := hI.l1
            have hn4 := hI.l2
            have hts32 : ts.length ≤ 32 := by omega
            have e6 : nh ≠ nr := fun e => by rw [e, k6] at k5; cases k5
            have htk : (ts.map fun t => V.d (encTxn t)).take ts.length = ts.map fun t => V.d (encTxn t) := List.take_of_length_le (by simp)
            refine Upd.wp (Upd.freezeIn (nx3 + 10) 4 (cs := [.d (.int .i64 e.proc), .d (.int .i64 p.status), .d (.int .i64 p.from_), .d (.int .i64 p.to_), .ms nr2 5 0 ys.length]) (xs := ys) (cs.map fun c => encOp (opOf b3 c)) (by (simp (maxSteps := 2000000) (disch := omega) [go_sem, -List.map_map])) (by rfl) (by (simp (maxSteps := 2000000) (disch := omega) [go_sem, -List.map_map])) (by rw [List.drop_zero, List.take_length, hys, List.map_map]; rfl) (by simp [hys]) (Upd.done ?_))
            refine WpM.less (le_cut (n0 := nx3) (n' := nx6 + 1) (l' := [(nx3 + 10, some (.box [.d (.int .i64 e.proc), .d (.int .i64 p.status), .d (.int .i64 p.from_), .d (.int .i64 p.to_), .d (.sl (cs.map fun c => encOp (opOf b3 c)))]))]) hGk (by (simp (maxSteps := 2000000) (disch := omega) [go_sem, -List.map_map]); omega) (Nat.le_refl _) (by (simp (maxSteps := 2000000) (disch := omega) [go_sem, -List.map_map]))) (Sub.le (l' := [(0, .d (evs l)), (2, .ptr n0 0), (3, .ptr (n0 + 1) 0), (6, .ptr L 0), (7, .ptr nh 0), (14, .ptr (nx3 + 10) 0), (29, .d (.sl (ps.map encPair))), (30, .d (.int .i64 ps.length)), (31, .d (.int .i64 i))]) z_su) ?_
            ((repeat refine WpM.seq ?_); have z_ex := (And.intro @k5 (And.intro @k6 (And.intro @htk True.intro))); refine WpM.regPE [] [(0, _), (2, _), (3, _), (6, _), (7, _), (29, _), (30, _), (31, _)] (by (refine s_o [(7, _)] rfl rfl rfl z_su rfl q_fieldAddr z_fp z_ss ?_; refine s_o [(116, _)] rfl rfl rfl z_su rfl q_load z_fp z_ss ?_; refine s_o [(14, _)] rfl rfl rfl z_su rfl q_load z_fp z_ss ?_; refine s_o [(118, _)] rfl rfl rfl z_su rfl q_full z_fp z_ss ?_; refine s_o [(117, _), (119, _)] rfl rfl rfl z_su rfl q_full z_fp z_ss ?_; refine s_o [(7, _)] rfl rfl rfl z_su rfl q_fieldAddr z_fp z_ss ?_; refine s_o [(120, _), (121, _)] rfl rfl rfl z_su rfl q_store z_fp z_ss ?_; exact wpS_nil ⟨rfl, rfl⟩)) z_su ?_; clear z_ex)
            refine WpM.norm ?_
            intro nx7 G7 hnx7 hG7 hk7
            have hnx7 : nx7 = nx6 + 8 := hnx7
            have hI7 : BInv LedAt H n0 L nh (nx6 + 5) (ts ++ [txnOf l p b3]) b3 O G7 nx7 := by
              refine hI.push LedAt.same hH (by omega) (by omega) (by rw [hG7]; (simp (maxSteps := 2000000) (disch := omega) [go_sem, -List.map_map])) (by rw [hG7, htx]; (simp (maxSteps := 2000000) (disch := omega) [go_sem, -List.map_map])) fun m q hm h1 h2 hq => ?_
              rw [hG7]
              (simp (maxSteps := 2000000) (disch := omega) [go_sem, -List.map_map, hq])
            clear hG7 hk7 k5 k6 hI htx htk hys kL kA
            ((repeat refine WpM.seq ?_); have z_ex := (And.intro @wrap_id True.intro); refine WpM.regPE [] [(0, _), (2, _), (3, _), (6, _), (7, _), (29, _), (30, _), (31, _)] (by (refine s_o [(31, _)] rfl rfl rfl z_su rfl q_full z_fp z_ss ?_; refine s_o [(122, _)] rfl rfl rfl z_su rfl q_move z_fp z_ss ?_; exact wpS_nil ⟨rfl, rfl⟩)) z_su ?_; clear z_ex)
            exact round_end (x' := i + 1) (St.Le.refl _) (Sub.le z_su) ⟨by omega, _, G7, b3, _, O, nx6 + 5, rfl, hnextst, hI7.same LedAt.same hH (by omega) (fun _ _ _ h => h), rfl⟩ (by omega)
    · ((repeat refine WpM.seq ?_); refine WpM.condF (by (simp (maxSteps := 2000000) (disch := omega) [go_sem, -List.map_map, hit])) ?_)
      (refine WpM.exit ?_; (repeat (with_reducible (first | refine thenM_exit ?_ | refine blockM_eq ?_ | refine blockM_ne (by decide) ?_))))
      obtain rfl : i = ps.length := by omega
      have hbv : buildV l = .tup [.d (.agg [.sl (b.keys.map D.str), .sl (ts.map encTxn)]), .d (.agg [.int .i64 0, .int .i64 0])] := by rw [buildV, buildF_ok hp hst]; rfl
      rw [hbv]
      obtain ⟨nk, na, nt, nf, ni, am, fm, im, r, hN⟩ := hI.led
      have kL := hN.box
      have kk := hN.keys
      have gL : L < nx := (hI.oo _ hN.oL).2
      have gk : nk < nx := (hI.oo _ hN.ok).2
      have k5 := hI.hb
      have k6 := hI.hr
      have hn4 := hI.l2
      have oL := (hI.oo _ hN.oL).1
      have ok1 := (hI.oo _ hN.ok).1
      have e1 : L ≠ nh := fun e => hI.o1 (e ▸ hN.oL)
      have e2 : L ≠ nr := fun e => hI.o2 (e ▸ hN.oL)
      have e3 : nk ≠ nh := fun e => hI.o1 (e ▸ hN.ok)
      have e4 : nk ≠ nr := fun e => hI.o2 (e ▸ hN.ok)
      have e5 : L ≠ nk := hN.ne.1
      have e6 : nh ≠ nr := fun e => by rw [e, k6] at k5; cases k5
      clear hN
      refine Upd.wp (Upd.freezeIn L 0 (cs := [.ms nk 1 0 b.keys.length, .map na, .ms nt 1 0 b.types.length, .map nf, .map ni]) (xs := b.keys.map fun s => .d (.str s)) (b.keys.map D.str) (by (simp (maxSteps := 2000000) (disch := omega) [go_sem, -List.map_map, kL])) (by rfl) (by (simp (maxSteps := 2000000) (disch := omega) [go_sem, -List.map_map, kk])) (by rw [List.drop_zero, List.take_of_length_le (by simp), List.map_map]; rfl) (by simp) (Upd.freezeIn nh 1 (cs := [.nil, .ms nr 5 0 ts.length]) (xs := ts.map fun t => .d (encTxn t)) (ts.map encTxn) (by (simp (maxSteps := 2000000) (disch := omega) [go_sem, -List.map_map, k5])) (by rfl) (by (simp (maxSteps := 2000000) (disch := omega) [go_sem, -List.map_map, k6])) (by rw [List.drop_zero, List.take_of_length_le (by simp), List.map_map]; rfl) (by simp) (Upd.done ?_)))
      refine WpM.less (St.Le.refl _) (Sub.le (l' := [(2, .ptr n0 0), (3, .ptr (n0 + 1) 0), (6, .ptr L 0), (7, .ptr nh 0)]) z_su) ?_
      refine WpM.norm ?_
      intro nx8 G8 hnx8 hG8 hk8
      have q1 : G8 L = some (.box [.d (.sl (b.keys.map D.str)), .map na, .ms nt 1 0 b.types.length, .map nf, .map ni]) := by rw [hG8]; (simp (maxSteps := 2000000) (disch := omega) [go_sem, -List.map_map])
      have q2 : G8 nh = some (.box [.nil, .d (.sl (ts.map encTxn))]) := by rw [hG8]; (simp (maxSteps := 2000000) (disch := omega) [go_sem, -List.map_map])
      have q3 : G8 n0 = some (.box [.nil, .nil]) := by rw [hG8]; (simp (maxSteps := 2000000) (disch := omega) [go_sem, -List.map_map, k2])
      have q4 : G8 (n0 + 1) = some (.box [.d (.int .i64 0), .d (.int .i64 0)]) := by rw [hG8]; (simp (maxSteps := 2000000) (disch := omega) [go_sem, -List.map_map, k3])
      have q5 : ∀ m k, H m = some k → G8 m = some k := fun m k hk => by
        have h9 := hH m k hk
        have h8 := hI.old m k hk
        rw [hG8]
        (simp (maxSteps := 2000000) (disch := omega) [go_sem, -List.map_map, h8])
      clear hG8 hk8 hnx8 kL kk k5 k6 k2 k3 hGk
      ((repeat refine WpM.seq ?_); have z_ex := (And.intro @q1 (And.intro @q2 True.intro)); refine WpM.regPE [] [(2, _), (3, _), (7, _)] (by (refine s_o [(6, _)] rfl rfl rfl z_su rfl q_move z_fp z_ss ?_; refine s_o [(123, _)] rfl rfl rfl z_su rfl q_move z_fp z_ss ?_; refine s_o [(124, _)] rfl rfl rfl z_su rfl q_fieldAddr z_fp z_ss ?_; refine s_o [(125, _)] rfl rfl rfl z_su rfl q_load z_fp z_ss ?_; refine s_o [(7, _)] rfl rfl rfl z_su rfl q_fieldAddr z_fp z_ss ?_; refine s_o [(126, _), (127, _)] rfl rfl rfl z_su rfl q_store z_fp z_ss ?_; exact wpS_nil ⟨rfl, rfl⟩)) z_su ?_; clear z_ex)
      ((repeat refine WpM.seq ?_); have z_ex := (And.intro @q2 (And.intro @q3 (And.intro @q4 True.intro))); refine WpM.regPE [] [(2, _), (3, _)] (by (refine s_o [(7, _)] rfl rfl rfl z_su rfl q_load z_fp z_ss ?_; refine s_o [] rfl rfl rfl z_su rfl q_build z_fp z_ss ?_; refine s_o [(2, _), (128, _)] rfl rfl rfl z_su rfl q_store z_fp z_ss ?_; refine s_o [(3, _), (129, _)] rfl rfl rfl z_su rfl q_store z_fp z_ss ?_; exact wpS_nil ⟨rfl, rfl⟩)) z_su ?_; clear z_ex)
      refine WpM.ret ?_
      refine ⟨.inr rfl, Upd.done ⟨_, (by (simp (maxSteps := 2000000) (disch := omega) [go_sem, -List.map_map, resV, resVs, resV1])), rfl, fun m k _ hk => ?_⟩⟩
      have h9 := hH _ _ hk
      have h8 := q5 m k hk
      (simp (maxSteps := 2000000) (disch := omega) [go_sem, -List.map_map, h8])
end Go.Proofs.Ytjjmedgibcffhaa
/- What Build answers is not too long. -/
namespace Go.Proofs.Ytjjmedgibcffhaa
open Go.RowKit M
set_option linter.unusedSimpArgs false
set_option linter.unusedVariables false
theorem txnOf_b {l : List EventD} (hok : SlOk EventOk 40 l) {p : PairD} (h : PairOk l p) (b : Bk) : TxnB (txnOf l p b) := by
  refine ⟨?_, fun o ho => ⟨?_⟩⟩
  · have := h.calls16
    simp only [txnOf, List.length_map]
    omega
  · simp only [txnOf, List.mem_map] at ho
    obtain ⟨c, hc, rfl⟩ := ho
    exact (callsFor_ok hok h c hc).2.2.2.1
theorem buildSt_b {l : List EventD} (hok : SlOk EventOk 40 l) {ps : List PairD} (hp : pairsF l = .ok ps) : ∀ {i : Nat} {b : Bk} {ts : List TxnD}, i ≤ ps.length → buildSt l ps i = .ok (b, ts) → ∀ t ∈ ts, TxnB t
  | 0, b, ts, _, h => by
    simp only [buildSt, Except.ok.injEq, Prod.mk.injEq] at h
    obtain ⟨_, rfl⟩ := h
    simp
  | i + 1, b, ts, hi, h => by
    cases h0 : buildSt l ps i with
    | error e => rw [buildSt, h0] at h; cases h
    | ok s =>
      obtain ⟨b0, ts0⟩ := s
      have ih := buildSt_b hok hp (by omega) h0
      rw [buildSt_succ h0 (by omega)] at h
      have hpo := pair_ok hp (i := i) (by omega)
      unfold buildStep at h
      split at h
      · cases h
      · cases he : entersE b0 (ev l ps[i].from_).calls ps[i].from_ with
        | error e => rw [he] at h; cases h
        | ok b1 =>
          rw [he] at h
          simp only [Except.ok.injEq, Prod.mk.injEq] at h
          obtain ⟨rfl, rfl⟩ := h
          intro t ht
          rcases List.mem_append.1 ht with ht | ht
          · exact ih t ht
          · simp at ht
            subst ht
            exact txnOf_b hok hpo _
theorem buildF_b {l : List EventD} (hok : SlOk EventOk 40 l) : HistB (buildF l).1 := by
  unfold buildF
  cases hp : pairsF l with
  | error e => exact ⟨by simp, by simp, by simp⟩
  | ok ps =>
    simp only
    cases hb : buildSt l ps ps.length with
    | error e => exact ⟨by simp, by simp, by simp⟩
    | ok s =>
      obtain ⟨b, ts⟩ := s
      obtain ⟨hw, hl, h32⟩ := buildSt_wf hp (Nat.le_refl _) hb
      have := hw.keys
      exact ⟨by show b.keys.length * 16 ≤ _; omega, by show ts.length * 56 ≤ _; omega, buildSt_b hok hp (Nat.le_refl _) hb⟩
end Go.Proofs.Ytjjmedgibcffhaa
