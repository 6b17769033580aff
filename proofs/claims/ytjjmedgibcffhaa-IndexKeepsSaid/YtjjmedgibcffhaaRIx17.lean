/- What a transaction wrote, both ways. -/
import Derived.Test.YtjjmedgibcffhaaROp2
import Derived.Test.YtjjmedgibcffhaaRIx12
namespace Go.Proofs.Ytjjmedgibcffhaa
open Go.RowKit M
set_option linter.unusedSimpArgs false
set_option linter.unusedVariables false
def wrP (key : Int) (o : OpD) : Bool := decide (o.key = key) && decide (o.kind ≤ 4)
def wroteL (ops : List OpD) (key : Int) : List Int := (ops.filter (wrP key)).map (·.arg)
theorem wroteL_step {ops : List OpD} {key : Int} {j : Nat} (h : j < ops.length) : wroteL (ops.take (j + 1)) key = wroteL (ops.take j) key ++ if wrP key ops[j] then [ops[j].arg] else [] := by
  rw [List.take_succ_eq_append_getElem h, wroteL, List.filter_append, List.map_append]
  congr 1
  by_cases hp : wrP key ops[j] = true
  · simp [hp]
  · simp [hp]
theorem wroteL_len (ops : List OpD) (key : Int) : (wroteL ops key).length ≤ ops.length := by
  simpa [wroteL] using List.length_filter_le _ _
def intV (l : List Int) : List V := l.map fun x => .d (.int .i64 x)
set_option maxHeartbeats 8000000 in
theorem wrote58 (t : TxnD) (hb : TxnB t) (key : Int) : PureC Try.prog 58 [.d (encTxn t), .d (.int .i64 key)] (.d (ints (wroteL t.ops key))) := by
  refine PureC.of (n := 31) Try.func58 rfl rfl (by simp) (by simp only [argL, Nat.reduceAdd] <;> rfl) rfl ?_
  intro n0 H hH
  have hlen := hb.len
  ((repeat refine WpM.seq ?_); have z_ex := (And.intro @encTxn.eq_1 True.intro); refine WpM.regPE [] [(1, _), (2, _)] (by (refine s_b [(0, _)] ?_; refine s_m [] ?_; exact wpS_nil ⟨rfl, rfl⟩)) z_su ?_; clear z_ex)
  ((repeat refine WpM.seq ?_); have z_ex := True.intro; refine WpM.regPE [] [(1, _), (2, _), (5, _)] (by (refine s_m [] ?_; exact wpS_nil ⟨rfl, rfl⟩)) z_su ?_; clear z_ex)
  refine Upd.wp (Upd.ghost 5 1 (.inl (by (simp (maxSteps := 2000000) (disch := omega) [go_sem, -List.map_map]))) (Upd.done ?_))
  refine WpM.less (le_cut (n0 := n0) (n' := n0 + 4) (l' := [(n0, some (.box [.d (.int .i64 t.proc), .d (.int .i64 t.status), .d (.int .i64 t.frm), .d (.int .i64 t.to), .d (.sl (t.ops.map encOp))])), (n0 + 3, some (.row 1 []))]) hH (by (simp (maxSteps := 2000000) (disch := omega) [go_sem, -List.map_map])) (Nat.le_refl _) (by (simp (maxSteps := 2000000) (disch := omega) [go_sem, -List.map_map, encTxn]))) (frLe_frOf (l := [(1, .d (.int .i64 key)), (2, .ptr n0 0), (5, .ms (n0 + 3) 1 0 0)]) (by (simp (maxSteps := 2000000) (disch := omega) [go_sem, -List.map_map]))) ?_
  ((repeat refine WpM.seq ?_); have z_ex := True.intro; refine WpM.regPE [] [(1, _), (5, _), (9, _), (10, _), (11, _)] (by (refine s_f [(2, _)] ?_; refine s_l [(8, _)] ?_; refine s_q [(9, _)] ?_; refine s_m [] ?_; exact wpS_nil ⟨rfl, rfl⟩)) z_su ?_; clear z_ex)
  ((repeat refine WpM.seq ?_); refine WpM.block ?_)
  refine WpM.loop (fun (j : Nat) fr S => j ≤ t.ops.length ∧ ∃ nx nr ys, n0 ≤ nr ∧ nr < nx ∧ ys = intV (wroteL (t.ops.take j) key) ∧ fr = frOf [(1, .d (.int .i64 key)), (5, .ms nr 1 0 ys.length), (9, .d (.sl (t.ops.map encOp))), (10, .d (.int .i64 t.ops.length)), (11, .d (.int .i64 j))] ∧ S = ⟨nx, [(nr, some (.row 1 ys))], H⟩) (fun j => t.ops.length - j) 0 (le_cut (n0 := n0) (n' := n0 + 8) (l' := [(n0 + 3, some (.row 1 []))]) hH (by (simp (maxSteps := 2000000) (disch := omega) [go_sem, -List.map_map])) (Nat.le_refl _) (by (simp (maxSteps := 2000000) (disch := omega) [go_sem, -List.map_map]))) (Sub.le z_su) ⟨by omega, n0 + 8, n0 + 3, [], by omega, by omega, rfl, rfl, rfl⟩ ?_
  rintro j fr S' ⟨hj, nx, nr, ys, hnr, hnx, hys, rfl, rfl⟩
  have hyl : ys.length ≤ j := by have := wroteL_len (t.ops.take j) key; rw [hys, intV, List.length_map]; simp at this; omega
  ((repeat refine WpM.seq ?_); have z_ex := True.intro; refine WpM.regPE [] [(1, _), (5, _), (9, _), (10, _), (11, _), (12, _)] (by (refine s_q [(10, _), (11, _)] ?_; exact wpS_nil ⟨rfl, rfl⟩)) z_su ?_; clear z_ex)
  by_cases hlt : j < t.ops.length
  · ((repeat refine WpM.seq ?_); refine WpM.condT (by (simp (maxSteps := 2000000) (disch := omega) [go_sem, -List.map_map, hlt])) ?_)
    refine WpM.skip ?_
    ((repeat refine WpM.seq ?_); refine WpM.block ?_)
    obtain ⟨o, ho⟩ : ∃ o, o = t.ops[j] := ⟨_, rfl⟩
    have hget : (t.ops.map encOp)[j]? = some (encOp o) := by simp [hlt, ho]
    have hstep := wroteL_step (key := key) hlt
    rw [← ho] at hstep
    ((repeat refine WpM.seq ?_); have z_ex := (And.intro @hget (And.intro @encOp.eq_1 True.intro)); refine WpM.regPE [] [(1, _), (5, _), (7, _), (9, _), (10, _), (11, _)] (by (refine s_q [(9, _), (11, _)] ?_; refine s_l [(13, _)] ?_; refine s_a [] ?_; refine s_s [(7, _), (14, _)] ?_; exact wpS_nil ⟨rfl, rfl⟩)) z_su ?_; clear z_ex)
    have no : wrP key o = false → ys = intV (wroteL (t.ops.take (j + 1)) key) := fun hp => by rw [hstep, hp, hys]; simp [intV]
    by_cases h1 : o.key = key
    · by_cases h2 : o.kind ≤ 4
      · have hp : wrP key o = true := by simp [wrP, h1, h2]
        have hys' : ys ++ [V.d (.int .i64 o.arg)] = intV (wroteL (t.ops.take (j + 1)) key) := by rw [hstep, hp, hys]; simp [intV]
        ((repeat refine WpM.seq ?_); have z_ex := (And.intro @h1 (And.intro @h2 True.intro)); refine WpM.regPE [] [(1, _), (5, _), (7, _), (9, _), (10, _), (11, _), (23, _)] (by (refine s_f [(7, _)] ?_; refine s_l [(15, _)] ?_; refine s_m [(1, _)] ?_; refine s_q [(16, _), (17, _)] ?_; refine s_m [(18, _)] ?_; refine s_wit ?_; intro z_g; (first | refine s_skip rfl z_g z_fp ?_ | (refine s_f [(7, _)] ?_ (hg := z_g))); clear z_g; refine s_wit ?_; intro z_g; (first | refine s_skip rfl z_g z_fp ?_ | (refine s_l [(20, _)] ?_ (hg := z_g))); clear z_g; refine s_wit ?_; intro z_g; (first | refine s_skip rfl z_g z_fp ?_ | (refine s_q [(21, _)] ?_ (hg := z_g))); clear z_g; refine s_m [(19, _), (22, _)] ?_; exact wpS_nil ⟨rfl, rfl⟩)) z_su ?_; clear z_ex)
        ((repeat refine WpM.seq ?_); refine WpM.condT (by (simp (maxSteps := 2000000) (disch := omega) [go_sem, -List.map_map, h1, h2])) ?_)
        ((repeat refine WpM.seq ?_); have z_ex := True.intro; refine WpM.regPE [] [(1, _), (5, _), (9, _), (10, _), (11, _)] (by (refine s_m [(5, _)] ?_; refine s_f [(7, _)] ?_; refine s_l [(25, _)] ?_; refine s_q [(26, _)] ?_; refine s_q [(24, _), (27, _)] ?_; refine s_m [(28, _)] ?_; exact wpS_nil ⟨rfl, rfl⟩)) z_su ?_; clear z_ex)
        ((repeat refine WpM.seq ?_); have z_ex := (And.intro @wrap_id True.intro); refine WpM.regPE [] [(1, _), (5, _), (9, _), (10, _), (11, _)] (by (refine s_q [(11, _)] ?_; refine s_m [(29, _)] ?_; exact wpS_nil ⟨rfl, rfl⟩)) z_su ?_; clear z_ex)
        exact round_end (x' := j + 1) (le_cut (n0 := n0) (l' := [(nx + 18, some (.row 1 (ys ++ [V.d (.int .i64 o.arg)])))]) hH (by (simp (maxSteps := 2000000) (disch := omega) [go_sem, -List.map_map]); omega) (Nat.le_refl _) (by (simp (maxSteps := 2000000) (disch := omega) [go_sem, -List.map_map]))) (frLe_frOf (by (simp (maxSteps := 2000000) (disch := omega) [go_sem, -List.map_map, wrap_id]))) ⟨by omega, nx + 22, nx + 18, _, by omega, by omega, hys', rfl, by (simp (maxSteps := 2000000) (disch := omega) [go_sem, -List.map_map])⟩ (by omega)
      · have hp : wrP key o = false := by simp [wrP, h2]
        ((repeat refine WpM.seq ?_); have z_ex := (And.intro @h1 (And.intro @h2 True.intro)); refine WpM.regPE [] [(1, _), (5, _), (7, _), (9, _), (10, _), (11, _), (23, _)] (by (refine s_f [(7, _)] ?_; refine s_l [(15, _)] ?_; refine s_m [(1, _)] ?_; refine s_q [(16, _), (17, _)] ?_; refine s_m [(18, _)] ?_; refine s_wit ?_; intro z_g; (first | refine s_skip rfl z_g z_fp ?_ | (refine s_f [(7, _)] ?_ (hg := z_g))); clear z_g; refine s_wit ?_; intro z_g; (first | refine s_skip rfl z_g z_fp ?_ | (refine s_l [(20, _)] ?_ (hg := z_g))); clear z_g; refine s_wit ?_; intro z_g; (first | refine s_skip rfl z_g z_fp ?_ | (refine s_q [(21, _)] ?_ (hg := z_g))); clear z_g; refine s_m [(19, _), (22, _)] ?_; exact wpS_nil ⟨rfl, rfl⟩)) z_su ?_; clear z_ex)
        ((repeat refine WpM.seq ?_); refine WpM.condF (by (simp (maxSteps := 2000000) (disch := omega) [go_sem, -List.map_map, h1, h2])) ?_)
        refine WpM.skip ?_
        ((repeat refine WpM.seq ?_); have z_ex := (And.intro @wrap_id True.intro); refine WpM.regPE [] [(1, _), (5, _), (9, _), (10, _), (11, _)] (by (refine s_q [(11, _)] ?_; refine s_m [(29, _)] ?_; exact wpS_nil ⟨rfl, rfl⟩)) z_su ?_; clear z_ex)
        exact round_end (x' := j + 1) (le_cut (n0 := n0) (l' := [(nr, some (.row 1 ys))]) hH (by (simp (maxSteps := 2000000) (disch := omega) [go_sem, -List.map_map]); omega) (Nat.le_refl _) (by (simp (maxSteps := 2000000) (disch := omega) [go_sem, -List.map_map]))) (Sub.le z_su) ⟨by omega, _, nr, ys, hnr, by show nr < nx + _; omega, no hp, rfl, rfl⟩ (by omega)
    · have hp : wrP key o = false := by simp [wrP, h1]
      ((repeat refine WpM.seq ?_); have z_ex := (And.intro @h1 True.intro); refine WpM.regPE [] [(1, _), (5, _), (7, _), (9, _), (10, _), (11, _), (23, _)] (by (refine s_f [(7, _)] ?_; refine s_l [(15, _)] ?_; refine s_m [(1, _)] ?_; refine s_q [(16, _), (17, _)] ?_; refine s_m [(18, _)] ?_; refine s_wit ?_; intro z_g; (first | refine s_skip rfl z_g z_fp ?_ | (refine s_f [(7, _)] ?_ (hg := z_g))); clear z_g; refine s_wit ?_; intro z_g; (first | refine s_skip rfl z_g z_fp ?_ | (refine s_l [(20, _)] ?_ (hg := z_g))); clear z_g; refine s_wit ?_; intro z_g; (first | refine s_skip rfl z_g z_fp ?_ | (refine s_q [(21, _)] ?_ (hg := z_g))); clear z_g; refine s_m [(19, _), (22, _)] ?_; exact wpS_nil ⟨rfl, rfl⟩)) z_su ?_; clear z_ex)
      ((repeat refine WpM.seq ?_); refine WpM.condF (by (simp (maxSteps := 2000000) (disch := omega) [go_sem, -List.map_map, h1])) ?_)
      refine WpM.skip ?_
      ((repeat refine WpM.seq ?_); have z_ex := (And.intro @wrap_id True.intro); refine WpM.regPE [] [(1, _), (5, _), (9, _), (10, _), (11, _)] (by (refine s_q [(11, _)] ?_; refine s_m [(29, _)] ?_; exact wpS_nil ⟨rfl, rfl⟩)) z_su ?_; clear z_ex)
      exact round_end (x' := j + 1) (le_cut (n0 := n0) (l' := [(nr, some (.row 1 ys))]) hH (by (simp (maxSteps := 2000000) (disch := omega) [go_sem, -List.map_map]); omega) (Nat.le_refl _) (by (simp (maxSteps := 2000000) (disch := omega) [go_sem, -List.map_map]))) (Sub.le z_su) ⟨by omega, _, nr, ys, hnr, by show nr < nx + _; omega, no hp, rfl, rfl⟩ (by omega)
  · ((repeat refine WpM.seq ?_); refine WpM.condF (by (simp (maxSteps := 2000000) (disch := omega) [go_sem, -List.map_map, hlt])) ?_)
    (refine WpM.exit ?_; (repeat (with_reducible (first | refine thenM_exit ?_ | refine blockM_eq ?_ | refine blockM_ne (by decide) ?_))))
    obtain rfl : j = t.ops.length := by omega
    rw [List.take_length] at hys
    ((repeat refine WpM.seq ?_); have z_ex := True.intro; refine WpM.regPE [] [(4, _)] (by (refine s_m [(5, _)] ?_; refine s_m [(30, _)] ?_; exact wpS_nil ⟨rfl, rfl⟩)) z_su ?_; clear z_ex)
    refine WpM.ret ?_
    refine ⟨.inr rfl, Upd.freeze 4 (nm := nr) (sz := 1) (o := 0) (m := ys.length) (xs := ys) ((wroteL t.ops key).map (D.int .i64)) (by (simp (maxSteps := 2000000) (disch := omega) [go_sem, -List.map_map])) (by (simp (maxSteps := 2000000) (disch := omega) [go_sem, -List.map_map])) (by rw [List.drop_zero, List.take_length, hys, intV, List.map_map]; rfl) (by rw [hys, intV]; simp) (Upd.done ?_)⟩
    (simp (maxSteps := 2000000) (disch := omega) [go_sem, -List.map_map, resV, resVs, resV1, fset, ints])
    omega
set_option maxHeartbeats 8000000 in
theorem wrote59 (h : HistD) (hb : HistB h) (i : Nat) (hi : i < h.txns.length) (key : Int) : PureC Try.prog 59 [.d (encHist h), .d (.int .i64 i), .d (.int .i64 key)] (.d (ints (wroteL h.txns[i].ops key))) := by
  refine PureC.of (n := 45) Try.func59 rfl rfl (by simp) (by simp only [argL, Nat.reduceAdd] <;> rfl) rfl ?_
  intro n0 H hH
  obtain ⟨t, ht⟩ : ∃ t, t = h.txns[i] := ⟨_, rfl⟩
  have hgt : (h.txns.map encTxn)[i]? = some (encTxn t) := by simp [hi, ht]
  have hlen := (hb.txns t (ht ▸ List.getElem_mem _)).len
  rw [← ht]
  ((repeat refine WpM.seq ?_); have z_ex := (And.intro @encHist.eq_1 True.intro); refine WpM.regPE [] [(1, _), (2, _), (3, _)] (by (refine s_b [(0, _)] ?_; refine s_m [] ?_; exact wpS_nil ⟨rfl, rfl⟩)) z_su ?_; clear z_ex)
  ((repeat refine WpM.seq ?_); have z_ex := True.intro; refine WpM.regPE [] [(1, _), (2, _), (3, _), (7, _)] (by (refine s_m [] ?_; exact wpS_nil ⟨rfl, rfl⟩)) z_su ?_; clear z_ex)
  refine Upd.wp (Upd.ghost 7 1 (.inl (by (simp (maxSteps := 2000000) (disch := omega) [go_sem, -List.map_map]))) (Upd.done ?_))
  refine WpM.less (le_cut (n0 := n0) (n' := n0 + 4) (l' := [(n0, some (.box [.d (strs h.keys), .d (.sl (h.txns.map encTxn))])), (n0 + 3, some (.row 1 []))]) hH (by (simp (maxSteps := 2000000) (disch := omega) [go_sem, -List.map_map])) (Nat.le_refl _) (by (simp (maxSteps := 2000000) (disch := omega) [go_sem, -List.map_map, encHist, strs]))) (frLe_frOf (l := [(1, .d (.int .i64 i)), (2, .d (.int .i64 key)), (3, .ptr n0 0), (7, .ms (n0 + 3) 1 0 0)]) (by (simp (maxSteps := 2000000) (disch := omega) [go_sem, -List.map_map]))) ?_
  ((repeat refine WpM.seq ?_); have z_ex := True.intro; refine WpM.regPE [] [(1, _), (2, _), (3, _), (7, _), (8, _)] (by (refine s_m [] ?_; exact wpS_nil ⟨rfl, rfl⟩)) z_su ?_; clear z_ex)
  ((repeat refine WpM.seq ?_); refine WpM.block ?_)
  refine WpM.loop (fun (j : Nat) fr S => j ≤ t.ops.length ∧ ∃ nx nr ys, n0 < nr ∧ nr < nx ∧ ys = intV (wroteL (t.ops.take j) key) ∧ fr = frOf [(1, .d (.int .i64 i)), (2, .d (.int .i64 key)), (3, .ptr n0 0), (7, .ms nr 1 0 ys.length), (8, .d (.int .i64 j))] ∧ S = ⟨nx, [(n0, some (.box [.d (strs h.keys), .d (.sl (h.txns.map encTxn))])), (nr, some (.row 1 ys))], H⟩) (fun j => t.ops.length - j) 0 (St.Le.refl _) (Sub.le z_su) ⟨by omega, _, n0 + 3, [], by omega, by show n0 + 3 < n0 + _; omega, rfl, rfl, rfl⟩ ?_
  rintro j fr S' ⟨hj, nx, nr, ys, hnr, hnx, hys, rfl, rfl⟩
  have hyl : ys.length ≤ j := by have := wroteL_len (t.ops.take j) key; rw [hys, intV, List.length_map]; simp at this; omega
  ((repeat refine WpM.seq ?_); have z_ex := (And.intro @hgt (And.intro @hi (And.intro @encTxn.eq_1 True.intro))); refine WpM.regPE [] [(1, _), (2, _), (3, _), (7, _), (8, _), (18, _)] (by (refine s_m [(8, _)] ?_; refine s_f [(3, _)] ?_; refine s_l [(11, _)] ?_; refine s_m [(1, _)] ?_; refine s_q [(12, _), (13, _)] ?_; refine s_f [(14, _)] ?_; refine s_l [(15, _)] ?_; refine s_q [(16, _)] ?_; refine s_q [(10, _), (17, _)] ?_; exact wpS_nil ⟨rfl, rfl⟩)) z_su ?_; clear z_ex)
  by_cases hlt : j < t.ops.length
  · ((repeat refine WpM.seq ?_); refine WpM.condT (by (simp (maxSteps := 2000000) (disch := omega) [go_sem, -List.map_map, hlt])) ?_)
    refine WpM.skip ?_
    ((repeat refine WpM.seq ?_); refine WpM.block ?_)
    obtain ⟨o, ho⟩ : ∃ o, o = t.ops[j] := ⟨_, rfl⟩
    have hget : (t.ops.map encOp)[j]? = some (encOp o) := by simp [hlt, ho]
    have hstep := wroteL_step (key := key) hlt
    rw [← ho] at hstep
    have hwr := writes67 o.kind
    ((repeat refine WpM.seq ?_); have z_ex := (And.intro @hgt (And.intro @hi (And.intro @hget (And.intro @hlt (And.intro @encTxn.eq_1 (And.intro @encOp.eq_1 True.intro)))))); refine WpM.regPE [] [(1, _), (2, _), (3, _), (7, _), (8, _), (9, _)] (by (refine s_f [(3, _)] ?_; refine s_l [(21, _)] ?_; refine s_m [(1, _)] ?_; refine s_q [(22, _), (23, _)] ?_; refine s_f [(24, _)] ?_; refine s_l [(25, _)] ?_; refine s_m [(8, _)] ?_; refine s_q [(26, _), (27, _)] ?_; refine s_l [(28, _)] ?_; refine s_a [] ?_; refine s_s [(9, _), (29, _)] ?_; exact wpS_nil ⟨rfl, rfl⟩)) z_su ?_; clear z_ex)
    have no : wrP key o = false → ys = intV (wroteL (t.ops.take (j + 1)) key) := fun hp => by rw [hstep, hp, hys]; simp [intV]
    by_cases h1 : o.key = key
    · by_cases h2 : o.kind ≤ 4
      · have hp : wrP key o = true := by simp [wrP, h1, h2]
        have hys' : ys ++ [V.d (.int .i64 o.arg)] = intV (wroteL (t.ops.take (j + 1)) key) := by rw [hstep, hp, hys]; simp [intV]
        ((repeat refine WpM.seq ?_); have z_ex := (And.intro @h1 (And.intro @h2 True.intro)); refine WpM.regPE [] [(1, _), (2, _), (3, _), (7, _), (8, _), (9, _), (38, _)] (by (refine s_f [(9, _)] ?_; refine s_l [(30, _)] ?_; refine s_m [(2, _)] ?_; refine s_q [(31, _), (32, _)] ?_; refine s_m [(33, _)] ?_; refine s_wit ?_; intro z_g; (first | refine s_skip rfl z_g z_fp ?_ | (refine s_f [(9, _)] ?_ (hg := z_g))); clear z_g; refine s_wit ?_; intro z_g; (first | refine s_skip rfl z_g z_fp ?_ | (refine s_l [(35, _)] ?_ (hg := z_g))); clear z_g; refine s_wit ?_; intro z_g; (first | refine s_skip rfl z_g z_fp ?_ | (refine s_pure (callOf_eq rfl rfl rfl (mlk_tmp z_lk mlk_nil)) (hwr) rfl z_g z_ip z_fp ?_)); clear z_g; refine s_m [(34, _), (37, _)] ?_; exact wpS_nil ⟨rfl, rfl⟩)) z_su ?_; clear z_ex)
        ((repeat refine WpM.seq ?_); refine WpM.condT (by (simp (maxSteps := 2000000) (disch := omega) [go_sem, -List.map_map, h1, h2])) ?_)
        ((repeat refine WpM.seq ?_); have z_ex := True.intro; refine WpM.regPE [] [(1, _), (2, _), (3, _), (7, _), (8, _)] (by (refine s_m [(7, _)] ?_; refine s_f [(9, _)] ?_; refine s_l [(40, _)] ?_; refine s_q [(41, _)] ?_; refine s_q [(39, _), (42, _)] ?_; refine s_m [(43, _)] ?_; exact wpS_nil ⟨rfl, rfl⟩)) z_su ?_; clear z_ex)
        ((repeat refine WpM.seq ?_); have z_ex := (And.intro @wrap_id True.intro); refine WpM.regPE [] [(1, _), (2, _), (3, _), (7, _), (8, _)] (by (refine s_m [(8, _)] ?_; refine s_q [(19, _)] ?_; refine s_m [(20, _)] ?_; exact wpS_nil ⟨rfl, rfl⟩)) z_su ?_; clear z_ex)
        exact round_end (x' := j + 1) (le_cut (n0 := n0) (l' := [(n0, some (.box [.d (strs h.keys), .d (.sl (h.txns.map encTxn))])), (nx + 32, some (.row 1 (ys ++ [V.d (.int .i64 o.arg)])))]) hH (by (simp (maxSteps := 2000000) (disch := omega) [go_sem, -List.map_map]); omega) (Nat.le_refl _) (by (simp (maxSteps := 2000000) (disch := omega) [go_sem, -List.map_map]))) (frLe_frOf (by (simp (maxSteps := 2000000) (disch := omega) [go_sem, -List.map_map, wrap_id]))) ⟨by omega, nx + 37, nx + 32, _, by omega, by omega, hys', rfl, by (simp (maxSteps := 2000000) (disch := omega) [go_sem, -List.map_map])⟩ (by omega)
      · have hp : wrP key o = false := by simp [wrP, h2]
        ((repeat refine WpM.seq ?_); have z_ex := (And.intro @h1 (And.intro @h2 True.intro)); refine WpM.regPE [] [(1, _), (2, _), (3, _), (7, _), (8, _), (9, _), (38, _)] (by (refine s_f [(9, _)] ?_; refine s_l [(30, _)] ?_; refine s_m [(2, _)] ?_; refine s_q [(31, _), (32, _)] ?_; refine s_m [(33, _)] ?_; refine s_wit ?_; intro z_g; (first | refine s_skip rfl z_g z_fp ?_ | (refine s_f [(9, _)] ?_ (hg := z_g))); clear z_g; refine s_wit ?_; intro z_g; (first | refine s_skip rfl z_g z_fp ?_ | (refine s_l [(35, _)] ?_ (hg := z_g))); clear z_g; refine s_wit ?_; intro z_g; (first | refine s_skip rfl z_g z_fp ?_ | (refine s_pure (callOf_eq rfl rfl rfl (mlk_tmp z_lk mlk_nil)) (hwr) rfl z_g z_ip z_fp ?_)); clear z_g; refine s_m [(34, _), (37, _)] ?_; exact wpS_nil ⟨rfl, rfl⟩)) z_su ?_; clear z_ex)
        ((repeat refine WpM.seq ?_); refine WpM.condF (by (simp (maxSteps := 2000000) (disch := omega) [go_sem, -List.map_map, h1, h2])) ?_)
        refine WpM.skip ?_
        ((repeat refine WpM.seq ?_); have z_ex := (And.intro @wrap_id True.intro); refine WpM.regPE [] [(1, _), (2, _), (3, _), (7, _), (8, _)] (by (refine s_m [(8, _)] ?_; refine s_q [(19, _)] ?_; refine s_m [(20, _)] ?_; exact wpS_nil ⟨rfl, rfl⟩)) z_su ?_; clear z_ex)
        exact round_end (x' := j + 1) (le_cut (n0 := n0) (l' := [(n0, some (.box [.d (strs h.keys), .d (.sl (h.txns.map encTxn))])), (nr, some (.row 1 ys))]) hH (by (simp (maxSteps := 2000000) (disch := omega) [go_sem, -List.map_map]); omega) (Nat.le_refl _) (by (simp (maxSteps := 2000000) (disch := omega) [go_sem, -List.map_map]))) (Sub.le z_su) ⟨by omega, _, nr, ys, hnr, by show nr < nx + _; omega, no hp, rfl, rfl⟩ (by omega)
    · have hp : wrP key o = false := by simp [wrP, h1]
      ((repeat refine WpM.seq ?_); have z_ex := (And.intro @h1 True.intro); refine WpM.regPE [] [(1, _), (2, _), (3, _), (7, _), (8, _), (9, _), (38, _)] (by (refine s_f [(9, _)] ?_; refine s_l [(30, _)] ?_; refine s_m [(2, _)] ?_; refine s_q [(31, _), (32, _)] ?_; refine s_m [(33, _)] ?_; refine s_wit ?_; intro z_g; (first | refine s_skip rfl z_g z_fp ?_ | (refine s_f [(9, _)] ?_ (hg := z_g))); clear z_g; refine s_wit ?_; intro z_g; (first | refine s_skip rfl z_g z_fp ?_ | (refine s_l [(35, _)] ?_ (hg := z_g))); clear z_g; refine s_wit ?_; intro z_g; (first | refine s_skip rfl z_g z_fp ?_ | (refine s_pure (callOf_eq rfl rfl rfl (mlk_tmp z_lk mlk_nil)) (hwr) rfl z_g z_ip z_fp ?_)); clear z_g; refine s_m [(34, _), (37, _)] ?_; exact wpS_nil ⟨rfl, rfl⟩)) z_su ?_; clear z_ex)
      ((repeat refine WpM.seq ?_); refine WpM.condF (by (simp (maxSteps := 2000000) (disch := omega) [go_sem, -List.map_map, h1])) ?_)
      refine WpM.skip ?_
      ((repeat refine WpM.seq ?_); have z_ex := (And.intro @wrap_id True.intro); refine WpM.regPE [] [(1, _), (2, _), (3, _), (7, _), (8, _)] (by (refine s_m [(8, _)] ?_; refine s_q [(19, _)] ?_; refine s_m [(20, _)] ?_; exact wpS_nil ⟨rfl, rfl⟩)) z_su ?_; clear z_ex)
      exact round_end (x' := j + 1) (le_cut (n0 := n0) (l' := [(n0, some (.box [.d (strs h.keys), .d (.sl (h.txns.map encTxn))])), (nr, some (.row 1 ys))]) hH (by (simp (maxSteps := 2000000) (disch := omega) [go_sem, -List.map_map]); omega) (Nat.le_refl _) (by (simp (maxSteps := 2000000) (disch := omega) [go_sem, -List.map_map]))) (Sub.le z_su) ⟨by omega, _, nr, ys, hnr, by show nr < nx + _; omega, no hp, rfl, rfl⟩ (by omega)
  · ((repeat refine WpM.seq ?_); refine WpM.condF (by (simp (maxSteps := 2000000) (disch := omega) [go_sem, -List.map_map, hlt])) ?_)
    (refine WpM.exit ?_; (repeat (with_reducible (first | refine thenM_exit ?_ | refine blockM_eq ?_ | refine blockM_ne (by decide) ?_))))
    obtain rfl : j = t.ops.length := by omega
    rw [List.take_length] at hys
    ((repeat refine WpM.seq ?_); have z_ex := True.intro; refine WpM.regPE [] [(6, _)] (by (refine s_m [(7, _)] ?_; refine s_m [(44, _)] ?_; exact wpS_nil ⟨rfl, rfl⟩)) z_su ?_; clear z_ex)
    refine WpM.ret ?_
    refine ⟨.inr rfl, Upd.freeze 6 (nm := nr) (sz := 1) (o := 0) (m := ys.length) (xs := ys) ((wroteL t.ops key).map (D.int .i64)) (by (simp (maxSteps := 2000000) (disch := omega) [go_sem, -List.map_map])) (by (simp (maxSteps := 2000000) (disch := omega) [go_sem, -List.map_map])) (by rw [List.drop_zero, List.take_length, hys, intV, List.map_map]; rfl) (by rw [hys, intV]; simp) (Upd.done ?_)⟩
    (simp (maxSteps := 2000000) (disch := omega) [go_sem, -List.map_map, resV, resVs, resV1, fset, ints])
    omega
end Go.Proofs.Ytjjmedgibcffhaa
