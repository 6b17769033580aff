/- assizelaw17.SolveKeeps, walked. -/
import Derived.Test.YtafeehlpmdligaaROp
import Derived.Test.YtafeehlpmdligaaRSvPo
import Derived.Test.YtafeehlpmdligaaRSvT
import Derived.Test.YtafeehlpmdligaaRLaw8
namespace Go.Proofs.Ytafeehlpmdligaa
open Go.RowKit M
set_option linter.unusedSimpArgs false
set_option linter.unusedVariables false
/-- What the law knows while it writes over the first answer. -/
structure Kp (H : Nat → Option Blk) (fb ab bb : Blk) (n0 b3 b5 lm lp m1 p1 : Nat) (ns : List Nat) (i : Nat) (G : Nat → Option Blk) : Prop where
  keep : ∀ m k, H m = some k → G m = some k
  f : G n0 = some fb
  a : G b3 = some ab
  b : G b5 = some bb
  ms : ∃ ms : List Bool, ms.length = lm ∧ G m1 = some (.row 1 (ms.map bl))
  pr : ∃ rows : List V, rows.length = lp ∧ G p1 = some (.row 1 rows) ∧ ∀ j nm, i ≤ j → ns[j]? = some nm → ∃ c : List Int, rows[j]? = some (.ms nm 1 0 c.length) ∧ G nm = some (.row 1 (c.map lit)) ∧ c.length ≤ 1000
theorem rowsV_at {ns : List Nat} {cs : List (List Int)} {j nm : Nat} {c : List Int} (h1 : ns[j]? = some nm) (h2 : cs[j]? = some c) : (rowsV ns cs)[j]? = some (.ms nm 1 0 c.length) := by
  unfold rowsV
  rw [List.getElem?_zipWith, h1, h2]
theorem bl_put (ms : List Bool) (v : Nat) (x : Bool) : (List.map bl ms).set v (V.d (D.bool x)) = (ms.set v x).map bl := by rw [List.map_set]; rfl
/-- The names are apart. -/
structure Nm (H : Nat → Option Blk) (n0 b3 b5 m1 p1 : Nat) (ns : List Nat) : Prop where
  hH : ∀ m k, H m = some k → m < n0
  a1 : n0 < m1
  a2 : n0 < p1
  a3 : m1 ≠ p1
  a4 : m1 ∉ ns
  a5 : p1 ∉ ns
  a6 : ∀ nm ∈ ns, n0 < nm ∧ nm < b3
  a7 : m1 < b3
  a8 : p1 < b3
  a9 : b3 < b5
  nd : ns.Nodup
theorem Kp.model {H : Nat → Option Blk} {fb ab bb : Blk} {n0 b3 b5 lm lp m1 p1 : Nat} {ns : List Nat} {i : Nat} {G G' : Nat → Option Blk} (h : Kp H fb ab bb n0 b3 b5 lm lp m1 p1 ns i G) (hN : Nm H n0 b3 b5 m1 p1 ns) (ms : List Bool) (hl : ms.length = lm) (h1 : G' m1 = some (.row 1 (ms.map bl)))
    (hk : ∀ m k, m ≠ m1 → G m = some k → G' m = some k) : Kp H fb ab bb n0 b3 b5 lm lp m1 p1 ns i G' := by
  have a1 := hN.a1; have a3 := hN.a3; have a7 := hN.a7; have a9 := hN.a9
  obtain ⟨rows, r1, r2, r3⟩ := h.pr
  refine ⟨fun m k hm => hk m k (by have := hN.hH m k hm; omega) (h.keep m k hm), hk _ _ (by omega) h.f, hk _ _ (by omega) h.a, hk _ _ (by omega) h.b, ⟨ms, hl, h1⟩, ⟨rows, r1, hk _ _ (by omega) r2, fun j nm hj hn => ?_⟩⟩
  obtain ⟨c, c1, c2, c3⟩ := r3 j nm hj hn
  exact ⟨c, c1, hk _ _ (fun e => hN.a4 (e ▸ List.mem_of_getElem? hn)) c2, c3⟩
theorem Kp.val {H : Nat → Option Blk} {fb ab bb : Blk} {n0 b3 b5 lm lp m1 p1 : Nat} {ns : List Nat} {i : Nat} {G G' : Nat → Option Blk} (h : Kp H fb ab bb n0 b3 b5 lm lp m1 p1 ns i G) (hN : Nm H n0 b3 b5 m1 p1 ns) {nm : Nat} (hn : ns[i]? = some nm) {c c' : List Int} (hc : G nm = some (.row 1 (c.map lit))) (hl : c'.length = c.length) (h1 : G' nm = some (.row 1 (c'.map lit)))
    (hk : ∀ m k, m ≠ nm → G m = some k → G' m = some k) : Kp H fb ab bb n0 b3 b5 lm lp m1 p1 ns i G' := by
  have hm := List.mem_of_getElem? hn
  obtain ⟨b1, b2⟩ := hN.a6 nm hm
  have a9 := hN.a9
  obtain ⟨rows, r1, r2, r3⟩ := h.pr
  obtain ⟨ms, m2, m3⟩ := h.ms
  refine ⟨fun m k hm => hk m k (by have := hN.hH m k hm; omega) (h.keep m k hm), hk _ _ (by omega) h.f, hk _ _ (by omega) h.a, hk _ _ (by omega) h.b, ⟨ms, m2, hk _ _ (fun e => hN.a4 (e ▸ hm)) m3⟩, ⟨rows, r1, hk _ _ (fun e => hN.a5 (e ▸ hm)) r2, fun j nm' hj hn' => ?_⟩⟩
  obtain ⟨d, d1, d2, d3⟩ := r3 j nm' hj hn'
  by_cases e : nm' = nm
  · subst e
    have e2 : (c.map lit).length = (d.map lit).length := by
      rw [hc] at d2
      injection d2 with d2
      injection d2 with _ d2
      rw [d2]
    rw [List.length_map, List.length_map] at e2
    exact ⟨c', by rw [hl, e2]; exact d1, h1, by omega⟩
  · exact ⟨d, d1, hk _ _ e d2, d3⟩
theorem Kp.app {H : Nat → Option Blk} {fb ab bb : Blk} {n0 b3 b5 lm lp m1 p1 : Nat} {ns : List Nat} {i : Nat} {G G' : Nat → Option Blk} (h : Kp H fb ab bb n0 b3 b5 lm lp m1 p1 ns i G) (hN : Nm H n0 b3 b5 m1 p1 ns) {nm : Nat} (hn : ns[i]? = some nm) {rows : List V} (hr : G p1 = some (.row 1 rows)) (x : V) (h1 : G' p1 = some (.row 1 (rows.set i x)))
    (hk : ∀ m k, m ≠ nm → m ≠ p1 → G m = some k → G' m = some k) : Kp H fb ab bb n0 b3 b5 lm lp m1 p1 ns (i + 1) G' := by
  have hm := List.mem_of_getElem? hn
  obtain ⟨b1, b2⟩ := hN.a6 nm hm
  have a9 := hN.a9; have a2 := hN.a2; have a8 := hN.a8; have a3 := hN.a3
  obtain ⟨rows', r1, r2, r3⟩ := h.pr
  obtain ⟨ms, m2, m3⟩ := h.ms
  have er : rows' = rows := by
    rw [hr] at r2
    injection r2 with r2
    injection r2 with _ r2
    exact r2.symm
  subst er
  refine ⟨fun m k hm => hk m k (by have := hN.hH m k hm; omega) (by have := hN.hH m k hm; omega) (h.keep m k hm), hk _ _ (by omega) (by omega) h.f, hk _ _ (by omega) (by omega) h.a, hk _ _ (by omega) (by omega) h.b, ⟨ms, m2, hk _ _ (fun e => hN.a4 (e ▸ hm)) a3 m3⟩, ⟨_, by rw [List.length_set]; exact r1, h1, fun j nm' hj hn' => ?_⟩⟩
  obtain ⟨d, d1, d2, d3⟩ := r3 j nm' (by omega) hn'
  have e : nm' ≠ nm := by
    intro e
    subst e
    obtain ⟨p1, p2⟩ := List.getElem?_eq_some_iff.1 hn
    obtain ⟨q1, q2⟩ := List.getElem?_eq_some_iff.1 hn'
    exact List.pairwise_iff_getElem.1 hN.nd i j p1 q1 (by omega) (p2.trans q2.symm)
  exact ⟨d, by rw [List.getElem?_set_ne (by omega)]; exact d1, hk _ _ e (fun e => hN.a5 (e ▸ List.mem_of_getElem? hn')) d2, d3⟩
set_option maxHeartbeats 8000000 in
theorem law13 (n : Int) (cs : List (List Int)) (hn : -9223372036854775808 ≤ n ∧ n ≤ 9223372036854775807) (hcl : cs.length ≤ 1048576) (hcs : ∀ c ∈ cs, c.length ≤ 1048576) :
    PureC Try.prog 13 [.d (cnf n cs)] (.d (.bool true)) := by
  intro S
  refine CallM.pure' rfl (CallM.start (n := 91) Try.func13 rfl rfl (by simp) (by simp only [argL, Nat.reduceAdd] <;> rfl) ?_)
  intro hH
  obtain ⟨H, hHe⟩ : ∃ H, H = S.get := ⟨_, rfl⟩
  obtain ⟨n0, hne⟩ : ∃ n0, n0 = S.next := ⟨_, rfl⟩
  rw [← hHe, ← hne] at hH ⊢
  have keep0 : ∀ nx, ∀ m k, H m = some k → St.get ⟨nx, [(n0, some (.box [.d (.int .i64 n), .d (cls cs)]))], H⟩ m = some k := by
    intro nx m k hm
    have := hH _ _ hm
    (simp (maxSteps := 2000000) (disch := omega) [go_sem, -List.map_map, hm])
  ((repeat refine WpM.seq ?_); have z_ex := (And.intro @cnf.eq_1 True.intro); refine WpM.regPE [] [(1, _)] (by (refine s_o [(0, _)] rfl rfl rfl z_su rfl q_box z_fp z_ss ?_; refine s_o [] rfl rfl rfl z_su rfl q_move z_fp z_ss ?_; exact wpS_nil ⟨rfl, rfl⟩)) z_su ?_; clear z_ex)
  ((repeat refine WpM.seq ?_); have z_ex := True.intro; refine WpM.regPE [] [(1, _), (11, _)] (by (refine s_pure (callOf_eq rfl rfl rfl mlk_nil) (alive29) rfl rfl z_ip z_fp ?_; refine s_o [(10, _)] rfl rfl rfl z_su rfl q_unOp z_fp z_ss ?_; exact wpS_nil ⟨rfl, rfl⟩)) z_su ?_; clear z_ex)
  ((repeat refine WpM.seq ?_); refine WpM.condF (by (simp (maxSteps := 2000000) (disch := omega) [go_sem, -List.map_map])) ?_)
  refine WpM.skip ?_
  have hL := few30 n cs hcl hcs
  have c2 := check32 n cs (by omega) (fun c hc => by have := hcs c hc; omega)
  cases hl : fewP n cs with
  | false =>
    rw [hl] at hL
    ((repeat refine WpM.seq ?_); have z_ex := (And.intro @cnf.eq_1 True.intro); refine WpM.regPE [] [(1, _), (19, _)] (by (refine s_o [(1, _)] rfl rfl rfl z_su rfl q_load z_fp z_ss ?_; refine s_pure (callOf_eq rfl rfl rfl (mlk_tmp z_lk mlk_nil)) (hL) rfl rfl z_ip z_fp ?_; refine s_o [(13, _)] rfl rfl rfl z_su rfl q_unOp z_fp z_ss ?_; refine s_o [(14, _)] rfl rfl rfl z_su rfl q_move z_fp z_ss ?_; refine s_wit ?_; intro z_g; (first | refine s_skip rfl z_g z_fp ?_ | (refine s_o [(1, _)] rfl z_g rfl z_su rfl q_load z_fp z_ss ?_)); clear z_g; refine s_wit ?_; intro z_g; (first | refine s_skip rfl z_g z_fp ?_ | (refine s_pure (callOf_eq rfl rfl rfl (mlk_tmp z_lk mlk_nil)) (?missing) rfl z_g z_ip z_fp ?_)); clear z_g; refine s_wit ?_; intro z_g; (first | refine s_skip rfl z_g z_fp ?_ | (refine s_o [(17, _)] rfl z_g rfl z_su rfl q_full z_fp z_ss ?_)); clear z_g; refine s_o [(15, _), (18, _)] rfl rfl rfl z_su rfl q_move z_fp z_ss ?_; exact wpS_nil ⟨rfl, rfl⟩)) z_su ?_; clear z_ex)
    ((repeat refine WpM.seq ?_); refine WpM.condT (by (simp (maxSteps := 2000000) (disch := omega) [go_sem, -List.map_map])) ?_)
    ((repeat refine WpM.seq ?_); have z_ex := True.intro; refine WpM.regPE [] [(2, _)] (by (refine s_o [] rfl rfl rfl z_su rfl q_move z_fp z_ss ?_; exact wpS_nil ⟨rfl, rfl⟩)) z_su ?_; clear z_ex)
    refine WpM.ret ?_
    exact ⟨.inr rfl, Upd.done ⟨.d (.bool true), (by (simp (maxSteps := 2000000) (disch := omega) [go_sem, -List.map_map, resV, resVs, resV1])), rfl, fun m k _ hk => keep0 _ m k hk⟩⟩
  | true =>
    rw [hl] at hL
    obtain ⟨hm, hn40⟩ := few_ok hl
    have hml := mass_len cs
    by_cases hchk : checkF n cs = 0
    · obtain ⟨k1, k2, k3, k4⟩ := check_ok hchk
      obtain ⟨n', rfl⟩ : ∃ n' : Nat, n = n' := ⟨n.toNat, by omega⟩
      rw [hchk] at c2
      have hlt : litsOk n' cs := ok_lits hchk
      have hR := (search_right hlt 100).2
      have ca := fun S => run31o n' cs 100 hchk (by omega) (by omega) (by omega) k3 k4 S
      have c1 := run31f n' cs (100 : Nat) hn (by omega) (by omega) (by omega) (fun c hc => by have := mass_mem hc; omega)
      have hr : runF n' cs (100 : Nat) = (searchF n' cs 100, 0) := by unfold runF; rw [if_neg (by simp [hchk]), if_neg (by omega)]; rfl
      rw [hr] at c1
      have c6 := right36 n' cs 100 _ hR hchk (by omega)
      have hpl : (searchF n' cs 100).proof.length ≤ 100 := by
        rcases hR.code with h | h | h
        · have := (hR.one h).2.2.2.2.2; have := hR.high; omega
        · rw [(hR.two h).1]; simp
        · rw [(hR.three h).2.1]; simp
      have hml2 : (searchF n' cs 100).model.length ≤ 100 := by
        rcases hR.code with h | h | h
        · rw [(hR.one h).1]; simp
        · rw [(hR.two h).2.2.1]; omega
        · rw [(hR.three h).1]; simp
      have hpc : ∀ c ∈ (searchF n' cs 100).proof, c.length ≤ 1000 := by
        intro c hc
        rcases hR.code with h | h | h
        · have := (hR.one h).2.2.2.2.1 c hc; omega
        · rw [(hR.two h).1] at hc; cases hc
        · rw [(hR.three h).2.1] at hc; cases hc
      obtain ⟨a, ha⟩ : ∃ a, a = searchF n' cs 100 := ⟨_, rfl⟩
      rw [← ha] at ca c1 c6 hpl hml2 hpc
      clear ha hR hr
      rw [encAns] at c1 c6
      ((repeat refine WpM.seq ?_); have z_ex := (And.intro @cnf.eq_1 True.intro); refine WpM.regPE [] [(1, _), (19, _)] (by (refine s_o [(1, _)] rfl rfl rfl z_su rfl q_load z_fp z_ss ?_; refine s_pure (callOf_eq rfl rfl rfl (mlk_tmp z_lk mlk_nil)) (hL) rfl rfl z_ip z_fp ?_; refine s_o [(13, _)] rfl rfl rfl z_su rfl q_unOp z_fp z_ss ?_; refine s_o [(14, _)] rfl rfl rfl z_su rfl q_move z_fp z_ss ?_; refine s_wit ?_; intro z_g; (first | refine s_skip rfl z_g z_fp ?_ | (refine s_o [(1, _)] rfl z_g rfl z_su rfl q_load z_fp z_ss ?_)); clear z_g; refine s_wit ?_; intro z_g; (first | refine s_skip rfl z_g z_fp ?_ | (refine s_pure (callOf_eq rfl rfl rfl (mlk_tmp z_lk mlk_nil)) (c2) rfl z_g z_ip z_fp ?_)); clear z_g; refine s_wit ?_; intro z_g; (first | refine s_skip rfl z_g z_fp ?_ | (refine s_o [(17, _)] rfl z_g rfl z_su rfl q_full z_fp z_ss ?_)); clear z_g; refine s_o [(15, _), (18, _)] rfl rfl rfl z_su rfl q_move z_fp z_ss ?_; exact wpS_nil ⟨rfl, rfl⟩)) z_su ?_; clear z_ex)
      ((repeat refine WpM.seq ?_); refine WpM.condF (by (simp (maxSteps := 2000000) (disch := omega) [go_sem, -List.map_map])) ?_)
      refine WpM.skip ?_
      ((repeat refine WpM.seq ?_); have z_ex := (And.intro @cnf.eq_1 True.intro); refine WpM.regP [] ?_; intro K hK; refine s_o [(1, _)] rfl rfl rfl z_su rfl q_load z_fp z_ss ?_; refine s_call (callOf_eq rfl rfl rfl (mlk_tmp z_lk (mlk_const rfl mlk_nil))) (CallM.lt (ca _)) rfl rfl z_ip ?_; rintro _ z_S ⟨⟨m1, p1, ns, rfl, o1, o2, o3, o4, o5, o6, o7, o8, o9⟩, o10⟩; obtain ⟨zn, zl, zH⟩ := z_S; refine s_put z_fp ?_; refine s_o [(22, _)] rfl rfl rfl z_su rfl q_move z_fp z_ss ?_; refine s_o [(20, _)] rfl rfl rfl z_su rfl q_extract z_fp z_ss ?_; refine s_o [(20, _)] rfl rfl rfl z_su rfl q_extract z_fp z_ss ?_; refine s_o [] rfl rfl rfl z_su rfl q_alloc z_fp z_ss ?_; refine s_o [(3, _), (23, _)] rfl rfl rfl z_su rfl q_store z_fp z_ss ?_; refine s_o [(24, _)] rfl rfl rfl z_su rfl q_move z_fp z_ss ?_; refine s_endE [(1, _), (3, _), (4, _)] hK z_su ?_; clear hK K; clear z_ex)
      have o4 : n0 + 1 ≤ m1 := Nat.le_trans (by show n0 + 1 ≤ n0 + _; omega) o4
      have o5 : n0 + 1 ≤ p1 := Nat.le_trans (by show n0 + 1 ≤ n0 + _; omega) o5
      have o3 := o3.le (lo' := n0 + 1) (by show n0 + 1 ≤ n0 + _; omega)
      have o10 : ∀ m k, lget zl zH m = some k → m < zn := o10
      have o9' := o9
      have o9 : ∀ m k, H m = some k → lget zl zH m = some k := fun m k hk => o9 m k (keep0 _ m k hk)
      have o11 : lget zl zH n0 = some (.box [.d (.int .i64 n'), .d (cls cs)]) := o9' n0 _ (by (simp (maxSteps := 2000000) (disch := omega) [go_sem, -List.map_map]))
      have o1 : lget zl zH m1 = _ := o1
      have o2 : lget zl zH p1 = _ := o2
      have t1 := o10 _ _ o1
      have t2 := o10 _ _ o2
      have t3 : ∀ nm ∈ ns, nm < zn := fun nm hm => by
        obtain ⟨k, hk⟩ := o3.is hm
        exact o10 nm k hk
      refine WpM.norm ?_
      intro nn G hnn hG hk
      obtain ⟨b3, hb3⟩ : ∃ b3, b3 = zn + 3 := ⟨_, rfl⟩
      have hnn : nn = zn + 6 := hnn
      have j0 : ∀ m k, lget zl zH m = some k → G m = some k := fun m k hk => by
        have := o10 m k hk
        rw [hG]; (simp (maxSteps := 2000000) (disch := omega) [go_sem, -List.map_map, hk])
      have j1 : G b3 = some (.box [.d (.int .i64 a.code), .ms m1 1 0 a.model.length, .ms p1 1 0 a.proof.length, .d (.int .i64 a.steps)]) := by rw [hG, hb3]; (simp (maxSteps := 2000000) (disch := omega) [go_sem, -List.map_map])
      clear hG
      have j2 : G n0 = some (.box [.d (.int .i64 n'), .d (cls cs)]) := j0 _ _ o11
      rw [← hb3]
      ((repeat refine WpM.seq ?_); have z_ex := (And.intro @cnf.eq_1 (And.intro @j2 True.intro)); refine WpM.regPE [] [(1, _), (3, _), (4, _), (5, _), (6, _)] (by (refine s_o [(1, _)] rfl rfl rfl z_su rfl q_load z_fp z_ss ?_; refine s_pure (callOf_eq rfl rfl rfl (mlk_tmp z_lk (mlk_const rfl mlk_nil))) (c1) rfl rfl z_ip z_fp ?_; refine s_o [(27, _)] rfl rfl rfl z_su rfl q_move z_fp z_ss ?_; refine s_o [(25, _)] rfl rfl rfl z_su rfl q_extract z_fp z_ss ?_; refine s_o [(25, _)] rfl rfl rfl z_su rfl q_extract z_fp z_ss ?_; refine s_o [] rfl rfl rfl z_su rfl q_alloc z_fp z_ss ?_; refine s_o [(5, _), (28, _)] rfl rfl rfl z_su rfl q_store z_fp z_ss ?_; refine s_o [(29, _)] rfl rfl rfl z_su rfl q_move z_fp z_ss ?_; exact wpS_nil ⟨rfl, rfl⟩)) z_su ?_; clear z_ex)
      refine WpM.norm ?_
      intro nn2 G2 hnn2 hG2 hk2
      obtain ⟨b5, hb5⟩ : ∃ b5, b5 = nn + 4 := ⟨_, rfl⟩
      have hnn2 : nn2 = nn + 7 := hnn2
      have s0 : ∀ m k, m < nn → G m = some k → G2 m = some k := fun m k hm hk => by rw [hG2]; (simp (maxSteps := 2000000) (disch := omega) [go_sem, -List.map_map, hk])
      obtain ⟨ab, hab⟩ : ∃ ab, ab = Blk.box [.d (.int .i64 a.code), .ms m1 1 0 a.model.length, .ms p1 1 0 a.proof.length, .d (.int .i64 a.steps)] := ⟨_, rfl⟩
      obtain ⟨bb, hbb⟩ : ∃ bb, bb = Blk.box [.d (.int .i64 a.code), .d (bools a.model), .d (cls a.proof), .d (.int .i64 a.steps)] := ⟨_, rfl⟩
      obtain ⟨fb, hfb⟩ : ∃ fb, fb = Blk.box [.d (.int .i64 n'), .d (cls cs)] := ⟨_, rfl⟩
      have hK : Kp H fb ab bb n0 b3 b5 a.model.length a.proof.length m1 p1 ns 0 G2 := by
        refine ⟨fun m k hk => s0 m k (by have := hH m k hk; omega) (j0 m k (o9 m k hk)), hfb ▸ s0 _ _ (by omega) j2, hab ▸ s0 _ _ (by omega) j1, ?_, ⟨a.model, rfl, s0 _ _ (by omega) (j0 _ _ o1)⟩, ⟨_, rowsV_len o3.len, s0 _ _ (by omega) (j0 _ _ o2), fun j nm _ hj => ?_⟩⟩
        · rw [hG2, hb5, hbb]; (simp (maxSteps := 2000000) (disch := omega) [go_sem, -List.map_map, bools, cls])
        · have hjl : j < a.proof.length := by rw [← o3.len]; exact (List.getElem?_eq_some_iff.1 hj).1
          have hjc := List.getElem?_eq_getElem hjl
          have hnm := t3 nm (List.mem_of_getElem? hj)
          exact ⟨a.proof[j], rowsV_at hj hjc, s0 _ _ (by omega) (j0 _ _ (o3.row j nm _ hj hjc)), hpc _ (List.getElem_mem _)⟩
      clear s0 hG2 hk2 j0 j1 j2 o1 o2 o9 o9' o10 o11
      have hN : Nm H n0 b3 b5 m1 p1 ns := ⟨hH, by omega, by omega, o6, o7, o8, fun nm hm => ⟨by have := o3.low nm hm; omega, by have := t3 nm hm; omega⟩, by omega, by omega, by omega, o3.nd⟩
      have hnl := o3.len
      clear o3 t3
      rw [← hb5]
      ((repeat refine WpM.seq ?_); have z_ex := True.intro; refine WpM.regPE [] [(1, _), (3, _), (5, _), (35, _)] (by (refine s_o [(4, _)] rfl rfl rfl z_su rfl q_move z_fp z_ss ?_; refine s_o [(30, _)] rfl rfl rfl z_su rfl q_full z_fp z_ss ?_; refine s_o [(31, _)] rfl rfl rfl z_su rfl q_move z_fp z_ss ?_; refine s_wit ?_; intro z_g; (first | refine s_skip rfl z_g z_fp ?_ | (refine s_o [(6, _)] rfl z_g rfl z_su rfl q_move z_fp z_ss ?_)); clear z_g; refine s_wit ?_; intro z_g; (first | refine s_skip rfl z_g z_fp ?_ | (refine s_o [(33, _)] rfl z_g rfl z_su rfl q_full z_fp z_ss ?_)); clear z_g; refine s_o [(32, _), (34, _)] rfl rfl rfl z_su rfl q_move z_fp z_ss ?_; exact wpS_nil ⟨rfl, rfl⟩)) z_su ?_; clear z_ex)
      ((repeat refine WpM.seq ?_); refine WpM.condF (by (simp (maxSteps := 2000000) (disch := omega) [go_sem, -List.map_map])) ?_)
      refine WpM.skip ?_
      ((repeat refine WpM.seq ?_); have z_ex := True.intro; refine WpM.regPE [] [(1, _), (3, _), (5, _), (7, _)] (by (refine s_o [] rfl rfl rfl z_su rfl q_move z_fp z_ss ?_; exact wpS_nil ⟨rfl, rfl⟩)) z_su ?_; clear z_ex)
      ((repeat refine WpM.seq ?_); refine WpM.block ?_)
      refine WpM.loop (fun (i : Nat) fr S => i ≤ a.model.length ∧ (∃ nx G, S = ⟨nx, [], G⟩ ∧ Kp H fb ab bb n0 b3 b5 a.model.length a.proof.length m1 p1 ns 0 G) ∧ fr = frOf [(1, .ptr n0 0), (3, .ptr b3 0), (5, .ptr b5 0), (7, .d (.int .i64 i))]) (fun i => a.model.length - i) 0 (St.Le.refl _) (Sub.le z_su) ⟨by omega, ⟨_, _, rfl, hK⟩, rfl⟩ ?_
      clear hK
      rintro i fr S' ⟨hi, ⟨nx, G3, rfl, hK⟩, rfl⟩
      have q1 : G3 b3 = _ := hab ▸ hK.a
      obtain ⟨ms, q2, q3⟩ := hK.ms
      ((repeat refine WpM.seq ?_); have z_ex := (And.intro @q1 True.intro); refine WpM.regPE [] [(1, _), (3, _), (5, _), (7, _), (40, _)] (by (refine s_o [(7, _)] rfl rfl rfl z_su rfl q_move z_fp z_ss ?_; refine s_o [(3, _)] rfl rfl rfl z_su rfl q_fieldAddr z_fp z_ss ?_; refine s_o [(37, _)] rfl rfl rfl z_su rfl q_load z_fp z_ss ?_; refine s_o [(38, _)] rfl rfl rfl z_su rfl q_full z_fp z_ss ?_; refine s_o [(36, _), (39, _)] rfl rfl rfl z_su rfl q_full z_fp z_ss ?_; exact wpS_nil ⟨rfl, rfl⟩)) z_su ?_; clear z_ex)
      by_cases hit : i < a.model.length
      · ((repeat refine WpM.seq ?_); refine WpM.condT (by (simp (maxSteps := 2000000) (disch := omega) [go_sem, -List.map_map, hit])) ?_)
        refine WpM.skip ?_
        ((repeat refine WpM.seq ?_); refine WpM.block ?_)
        have him : i < ms.length := by omega
        have hgm : (ms.map bl)[i]? = some (.d (.bool (ms.getD i false))) := by simp [bl, him]
        have a7 := hN.a7
        have hb3m : b3 ≠ m1 := by omega
        ((repeat refine WpM.seq ?_); have z_ex := (And.intro @q1 (And.intro @q3 (And.intro @hgm (And.intro @hit (And.intro @him True.intro))))); refine WpM.drwPE [] [(1, _), (3, _), (5, _), (7, _)] mixed (by kernel_rfl) (by kernel_rfl) [] (by kernel_rfl) (by (refine d_o [(3, _)] rfl rfl rfl z_su rfl q_fieldAddr z_fp z_ss rfl ?_; refine d_o [(43, _)] rfl rfl rfl z_su rfl q_load z_fp z_ss rfl ?_; refine d_o [(7, _)] rfl rfl rfl z_su rfl q_move z_fp z_ss rfl ?_; refine d_o [(3, _)] rfl rfl rfl z_su rfl q_fieldAddr z_fp z_ss rfl ?_; refine d_o [(46, _)] rfl rfl rfl z_su rfl q_load z_fp z_ss rfl ?_; refine d_o [(7, _)] rfl rfl rfl z_su rfl q_move z_fp z_ss rfl ?_; refine d_o [(47, _), (48, _)] rfl rfl rfl z_su rfl q_full z_fp z_ss rfl ?_; refine d_o [(49, _)] rfl rfl rfl z_su rfl q_load z_fp z_ss rfl ?_; refine d_o [(50, _)] rfl rfl rfl z_su rfl q_unOp z_fp z_ss rfl ?_; refine d_o [(44, _), (45, _)] rfl rfl rfl z_su rfl q_full z_fp z_ss rfl ?_; refine d_o [(51, _), (52, _)] rfl rfl rfl z_su rfl q_store z_fp z_ss rfl ?_; exact d_end z_mt z_sn)) z_su ?_; clear z_ex)
        rw [show ∀ z, [V.d (D.bool z)].headD V.undef = V.d (D.bool z) from fun _ => rfl, bl_put]
        refine blockM_norm ?_
        ((repeat refine WpM.seq ?_); have z_ex := (And.intro @wrap_id True.intro); refine WpM.regPE [] [(1, _), (3, _), (5, _), (7, _)] (by (refine s_o [(7, _)] rfl rfl rfl z_su rfl q_move z_fp z_ss ?_; refine s_o [(41, _)] rfl rfl rfl z_su rfl q_full z_fp z_ss ?_; refine s_o [(42, _)] rfl rfl rfl z_su rfl q_move z_fp z_ss ?_; exact wpS_nil ⟨rfl, rfl⟩)) z_su ?_; clear z_ex)
        refine round_end (x' := i + 1) (St.Le.norm _) (Sub.le z_su) ⟨by omega, ⟨_, _, rfl, hK.model hN (ms.set i (!ms.getD i false)) (by simp [q2]) (by (simp (maxSteps := 2000000) (disch := omega) [go_sem, -List.map_map])) fun m k hm hk => by (simp (maxSteps := 2000000) (disch := omega) [go_sem, -List.map_map, hm, hk])⟩, rfl⟩ (by omega)
      · ((repeat refine WpM.seq ?_); refine WpM.condF (by (simp (maxSteps := 2000000) (disch := omega) [go_sem, -List.map_map, hit])) ?_)
        (refine WpM.exit ?_; (repeat (with_reducible (first | refine thenM_exit ?_ | refine blockM_eq ?_ | refine blockM_ne (by decide) ?_))))
        ((repeat refine WpM.seq ?_); have z_ex := True.intro; refine WpM.regPE [] [(1, _), (3, _), (5, _), (8, _)] (by (refine s_o [] rfl rfl rfl z_su rfl q_move z_fp z_ss ?_; exact wpS_nil ⟨rfl, rfl⟩)) z_su ?_; clear z_ex)
        clear q1 q2 q3
        ((repeat refine WpM.seq ?_); refine WpM.block ?_)
        refine WpM.loop (fun (i : Nat) fr S => i ≤ a.proof.length ∧ (∃ nx G, S = ⟨nx, [], G⟩ ∧ Kp H fb ab bb n0 b3 b5 a.model.length a.proof.length m1 p1 ns i G) ∧ fr = frOf [(1, .ptr n0 0), (3, .ptr b3 0), (5, .ptr b5 0), (8, .d (.int .i64 i))]) (fun i => a.proof.length - i) 0 (St.Le.refl _) (Sub.le z_su) ⟨by omega, ⟨_, _, rfl, hK⟩, rfl⟩ ?_
        clear hK
        rintro i fr S' ⟨hi, ⟨nx, G4, rfl, hK⟩, rfl⟩
        have q1 : G4 b3 = _ := hab ▸ hK.a
        ((repeat refine WpM.seq ?_); have z_ex := (And.intro @q1 True.intro); refine WpM.regPE [] [(1, _), (3, _), (5, _), (8, _), (57, _)] (by (refine s_o [(8, _)] rfl rfl rfl z_su rfl q_move z_fp z_ss ?_; refine s_o [(3, _)] rfl rfl rfl z_su rfl q_fieldAddr z_fp z_ss ?_; refine s_o [(54, _)] rfl rfl rfl z_su rfl q_load z_fp z_ss ?_; refine s_o [(55, _)] rfl rfl rfl z_su rfl q_full z_fp z_ss ?_; refine s_o [(53, _), (56, _)] rfl rfl rfl z_su rfl q_full z_fp z_ss ?_; exact wpS_nil ⟨rfl, rfl⟩)) z_su ?_; clear z_ex)
        by_cases hit : i < a.proof.length
        · ((repeat refine WpM.seq ?_); refine WpM.condT (by (simp (maxSteps := 2000000) (disch := omega) [go_sem, -List.map_map, hit])) ?_)
          refine WpM.skip ?_
          ((repeat refine WpM.seq ?_); refine WpM.block ?_)
          obtain ⟨nm, hnm⟩ : ∃ nm, ns[i]? = some nm := ⟨_, List.getElem?_eq_getElem (by omega)⟩
          ((repeat refine WpM.seq ?_); have z_ex := True.intro; refine WpM.regPE [] [(1, _), (3, _), (5, _), (8, _), (9, _)] (by (refine s_o [] rfl rfl rfl z_su rfl q_move z_fp z_ss ?_; exact wpS_nil ⟨rfl, rfl⟩)) z_su ?_; clear z_ex)
          have nb3 : b3 ≠ nm := by have := (hN.a6 nm (List.mem_of_getElem? hnm)).2; omega
          have np1 : p1 ≠ nm := fun e => hN.a5 (e ▸ List.mem_of_getElem? hnm)
          have a8 := hN.a8
          have nbp : b3 ≠ p1 := by omega
          ((repeat refine WpM.seq ?_); refine WpM.block ?_)
          refine WpM.loop (fun (k : Nat) fr S => ∃ nx G c, S = ⟨nx, [], G⟩ ∧ k ≤ c ∧ c ≤ 1000 ∧ (∃ cl : List Int, cl.length = c ∧ G nm = some (.row 1 (cl.map lit))) ∧ Kp H fb ab bb n0 b3 b5 a.model.length a.proof.length m1 p1 ns i G ∧ fr = frOf [(1, .ptr n0 0), (3, .ptr b3 0), (5, .ptr b5 0), (8, .d (.int .i64 i)), (9, .d (.int .i64 k))]) (fun k => 1001 - k) 0 (St.Le.refl _) (Sub.le (l' := [(1, .ptr n0 0), (3, .ptr b3 0), (5, .ptr b5 0), (8, .d (.int .i64 i)), (9, .d (.int .i64 0))]) z_su) ?_ ?_
          · obtain ⟨rows, r1, r2, r3⟩ := hK.pr
            obtain ⟨c, c1, c2, c3⟩ := r3 i nm (Nat.le_refl _) hnm
            exact ⟨_, G4, c.length, rfl, by omega, c3, ⟨c, rfl, c2⟩, hK, rfl⟩
          clear hK q1
          rintro k fr S' ⟨nx, G5, cl, rfl, hkc, hc1, ⟨c, hcl, hcG⟩, hK, rfl⟩
          refine WpM.known fun hk5 => ?_
          have hk5 : ∀ m k, G5 m = some k → m < nx := hk5
          have q1 : G5 b3 = _ := hab ▸ hK.a
          obtain ⟨rows, r1, r2, r3⟩ := hK.pr
          have hri : rows[i]? = some (.ms nm 1 0 cl) := by
            obtain ⟨c', c1, c2, c3⟩ := r3 i nm (Nat.le_refl _) hnm
            rw [c1]
            rw [hcG] at c2
            injection c2 with c2
            injection c2 with _ c2
            have := congrArg List.length c2
            rw [List.length_map, List.length_map] at this
            rw [← this, hcl]
          have hir : i < rows.length := by omega
          have x1 := hk5 _ _ q1
          have x2 := hk5 _ _ r2
          have x3 := hk5 _ _ hcG
          ((repeat refine WpM.seq ?_); have z_ex := (And.intro @q1 (And.intro @r2 (And.intro @hri (And.intro @hit (And.intro @hir True.intro))))); refine WpM.regPE [] [(1, _), (3, _), (5, _), (8, _), (9, _), (67, _)] (by (refine s_o [(9, _)] rfl rfl rfl z_su rfl q_move z_fp z_ss ?_; refine s_o [(3, _)] rfl rfl rfl z_su rfl q_fieldAddr z_fp z_ss ?_; refine s_o [(61, _)] rfl rfl rfl z_su rfl q_load z_fp z_ss ?_; refine s_o [(8, _)] rfl rfl rfl z_su rfl q_move z_fp z_ss ?_; refine s_o [(62, _), (63, _)] rfl rfl rfl z_su rfl q_full z_fp z_ss ?_; refine s_o [(64, _)] rfl rfl rfl z_su rfl q_load z_fp z_ss ?_; refine s_o [(65, _)] rfl rfl rfl z_su rfl q_full z_fp z_ss ?_; refine s_o [(60, _), (66, _)] rfl rfl rfl z_su rfl q_full z_fp z_ss ?_; exact wpS_nil ⟨rfl, rfl⟩)) z_su ?_; clear z_ex)
          by_cases hkt : k < cl
          · ((repeat refine WpM.seq ?_); refine WpM.condT (by (simp (maxSteps := 2000000) (disch := omega) [go_sem, -List.map_map, hkt])) ?_)
            refine WpM.skip ?_
            ((repeat refine WpM.seq ?_); refine WpM.block ?_)
            have hkl : k < c.length := by omega
            have hgk : (c.map lit)[k]? = some (.d (.int .i64 c[k])) := by simp [lit, hkl]
            ((repeat refine WpM.seq ?_); have z_ex := (And.intro @q1 (And.intro @r2 (And.intro @hri (And.intro @hit (And.intro @hir (And.intro @hcG (And.intro @hgk (And.intro @hkt (And.intro @hkl True.intro))))))))); refine WpM.regPE [] [(1, _), (3, _), (5, _), (8, _), (9, _)] (by (refine s_o [(3, _)] rfl rfl rfl z_su rfl q_fieldAddr z_fp z_ss ?_; refine s_o [(70, _)] rfl rfl rfl z_su rfl q_load z_fp z_ss ?_; refine s_o [(8, _)] rfl rfl rfl z_su rfl q_move z_fp z_ss ?_; refine s_o [(71, _), (72, _)] rfl rfl rfl z_su rfl q_full z_fp z_ss ?_; refine s_o [(73, _)] rfl rfl rfl z_su rfl q_load z_fp z_ss ?_; refine s_o [(9, _)] rfl rfl rfl z_su rfl q_move z_fp z_ss ?_; refine s_o [(74, _), (75, _)] rfl rfl rfl z_su rfl q_full z_fp z_ss ?_; refine s_o [(76, _)] rfl rfl rfl z_su rfl q_store z_fp z_ss ?_; exact wpS_nil ⟨rfl, rfl⟩)) z_su ?_; clear z_ex)
            rw [show (List.map lit c).set k ([V.d (D.int .i64 (-77))].headD V.undef) = (c.set k (-77)).map lit by rw [List.map_set]; rfl]
            refine blockM_norm ?_
            ((repeat refine WpM.seq ?_); have z_ex := (And.intro @wrap_id True.intro); refine WpM.regPE [] [(1, _), (3, _), (5, _), (8, _), (9, _)] (by (refine s_o [(9, _)] rfl rfl rfl z_su rfl q_move z_fp z_ss ?_; refine s_o [(68, _)] rfl rfl rfl z_su rfl q_full z_fp z_ss ?_; refine s_o [(69, _)] rfl rfl rfl z_su rfl q_move z_fp z_ss ?_; exact wpS_nil ⟨rfl, rfl⟩)) z_su ?_; clear z_ex)
            exact round_end (x' := k + 1) (St.Le.norm _) (Sub.le z_su) ⟨_, _, cl, rfl, by omega, hc1, ⟨c.set k (-77), by simp [hcl], by (simp (maxSteps := 2000000) (disch := omega) [go_sem, -List.map_map])⟩, hK.val hN hnm hcG (c' := c.set k (-77)) (by simp) (by (simp (maxSteps := 2000000) (disch := omega) [go_sem, -List.map_map])) (fun m q hm hq => by (simp (maxSteps := 2000000) (disch := omega) [go_sem, -List.map_map, hm, hq])), rfl⟩ (by omega)
          · ((repeat refine WpM.seq ?_); refine WpM.condF (by (simp (maxSteps := 2000000) (disch := omega) [go_sem, -List.map_map, hkt])) ?_)
            (refine WpM.exit ?_; (repeat (with_reducible (first | refine thenM_exit ?_ | refine blockM_eq ?_ | refine blockM_ne (by decide) ?_))))
            have hct : (c.map lit).take cl = c.map lit := List.take_of_length_le (by simp [hcl])
            ((repeat refine WpM.seq ?_); have z_ex := (And.intro @q1 (And.intro @r2 (And.intro @hri (And.intro @hit (And.intro @hir (And.intro @hcG (And.intro @hct (And.intro @hcl True.intro)))))))); refine WpM.drwPE [] [(1, _), (3, _), (5, _), (8, _)] mixed (by kernel_rfl) (by kernel_rfl) [(1, 8), (4, 8), (7, 8), (1, 9)] (by kernel_rfl) (by (refine d_o [(3, _)] rfl rfl rfl z_su rfl q_fieldAddr z_fp z_ss rfl ?_; refine d_o [(77, _)] rfl rfl rfl z_su rfl q_load z_fp z_ss rfl ?_; refine d_o [(8, _)] rfl rfl rfl z_su rfl q_move z_fp z_ss rfl ?_; refine d_o [(3, _)] rfl rfl rfl z_su rfl q_fieldAddr z_fp z_ss rfl ?_; refine d_o [(80, _)] rfl rfl rfl z_su rfl q_load z_fp z_ss rfl ?_; refine d_o [(8, _)] rfl rfl rfl z_su rfl q_move z_fp z_ss rfl ?_; refine d_o [(81, _), (82, _)] rfl rfl rfl z_su rfl q_full z_fp z_ss rfl ?_; refine d_o [(83, _)] rfl rfl rfl z_su rfl q_load z_fp z_ss rfl ?_; refine d_o [] rfl rfl rfl z_su rfl q_full z_fp z_ss rfl ?_; refine d_o [(84, _), (85, _)] rfl rfl rfl z_su rfl q_full z_fp z_ss rfl ?_; refine d_o [(78, _), (79, _)] rfl rfl rfl z_su rfl q_full z_fp z_ss rfl ?_; refine d_o [(86, _), (87, _)] rfl rfl rfl z_su rfl q_store z_fp z_ss rfl ?_; exact d_end z_mt z_sn)) z_su ?_; clear z_ex)
            refine blockM_norm ?_
            ((repeat refine WpM.seq ?_); have z_ex := (And.intro @wrap_id True.intro); refine WpM.regPE [] [(1, _), (3, _), (5, _), (8, _)] (by (refine s_o [(8, _)] rfl rfl rfl z_su rfl q_move z_fp z_ss ?_; refine s_o [(58, _)] rfl rfl rfl z_su rfl q_full z_fp z_ss ?_; refine s_o [(59, _)] rfl rfl rfl z_su rfl q_move z_fp z_ss ?_; exact wpS_nil ⟨rfl, rfl⟩)) z_su ?_; clear z_ex)
            refine round_end (x' := i + 1) (St.Le.norm _) (Sub.le z_su) ⟨by omega, ⟨_, _, rfl, hK.app hN hnm r2 (.ms (nx + 17) 1 0 (cl + 2)) (by (simp (maxSteps := 2000000) (disch := omega) [go_sem, -List.map_map, List.headD])) fun m q hm1 hm2 hq => ?_⟩, rfl⟩ (by omega)
            have := hk5 m q hq
            have hm3 : m ≠ nx + 17 := by omega
            (simp (maxSteps := 2000000) (disch := omega) [go_sem, -List.map_map, hm1, hm2, hm3, hq])
        · ((repeat refine WpM.seq ?_); refine WpM.condF (by (simp (maxSteps := 2000000) (disch := omega) [go_sem, -List.map_map, hit])) ?_)
          (refine WpM.exit ?_; (repeat (with_reducible (first | refine thenM_exit ?_ | refine blockM_eq ?_ | refine blockM_ne (by decide) ?_))))
          have q2 : G4 b5 = _ := hbb ▸ hK.b
          have q3 : G4 n0 = _ := hfb ▸ hK.f
          ((repeat refine WpM.seq ?_); have z_ex := (And.intro @cnf.eq_1 (And.intro @q2 (And.intro @q3 True.intro))); refine WpM.regPE [] [(2, _)] (by (refine s_o [(1, _)] rfl rfl rfl z_su rfl q_load z_fp z_ss ?_; refine s_o [(5, _)] rfl rfl rfl z_su rfl q_load z_fp z_ss ?_; refine s_pure (callOf_eq rfl rfl rfl (mlk_tmp z_lk (mlk_const rfl (mlk_tmp z_lk mlk_nil)))) (c6) rfl rfl z_ip z_fp ?_; refine s_o [(90, _)] rfl rfl rfl z_su rfl q_move z_fp z_ss ?_; exact wpS_nil ⟨rfl, rfl⟩)) z_su ?_; clear z_ex)
          refine WpM.ret ?_
          exact ⟨.inr rfl, Upd.done ⟨.d (.bool true), (by (simp (maxSteps := 2000000) (disch := omega) [go_sem, -List.map_map, resV, resVs, resV1])), rfl, fun m k _ hk => hK.keep m k hk⟩⟩
    · ((repeat refine WpM.seq ?_); have z_ex := (And.intro @cnf.eq_1 (And.intro @hchk True.intro)); refine WpM.regPE [] [(1, _), (19, _)] (by (refine s_o [(1, _)] rfl rfl rfl z_su rfl q_load z_fp z_ss ?_; refine s_pure (callOf_eq rfl rfl rfl (mlk_tmp z_lk mlk_nil)) (hL) rfl rfl z_ip z_fp ?_; refine s_o [(13, _)] rfl rfl rfl z_su rfl q_unOp z_fp z_ss ?_; refine s_o [(14, _)] rfl rfl rfl z_su rfl q_move z_fp z_ss ?_; refine s_wit ?_; intro z_g; (first | refine s_skip rfl z_g z_fp ?_ | (refine s_o [(1, _)] rfl z_g rfl z_su rfl q_load z_fp z_ss ?_)); clear z_g; refine s_wit ?_; intro z_g; (first | refine s_skip rfl z_g z_fp ?_ | (refine s_pure (callOf_eq rfl rfl rfl (mlk_tmp z_lk mlk_nil)) (c2) rfl z_g z_ip z_fp ?_)); clear z_g; refine s_wit ?_; intro z_g; (first | refine s_skip rfl z_g z_fp ?_ | (refine s_o [(17, _)] rfl z_g rfl z_su rfl q_full z_fp z_ss ?_)); clear z_g; refine s_o [(15, _), (18, _)] rfl rfl rfl z_su rfl q_move z_fp z_ss ?_; exact wpS_nil ⟨rfl, rfl⟩)) z_su ?_; clear z_ex)
      ((repeat refine WpM.seq ?_); refine WpM.condT (by (simp (maxSteps := 2000000) (disch := omega) [go_sem, -List.map_map, hchk])) ?_)
      ((repeat refine WpM.seq ?_); have z_ex := True.intro; refine WpM.regPE [] [(2, _)] (by (refine s_o [] rfl rfl rfl z_su rfl q_move z_fp z_ss ?_; exact wpS_nil ⟨rfl, rfl⟩)) z_su ?_; clear z_ex)
      refine WpM.ret ?_
      exact ⟨.inr rfl, Upd.done ⟨.d (.bool true), (by (simp (maxSteps := 2000000) (disch := omega) [go_sem, -List.map_map, resV, resVs, resV1])), rfl, fun m k _ hk => keep0 _ m k hk⟩⟩
theorem solveKeeps_law (n : Int) (cs : List (List Int)) (hn : IntOk .i64 n) (hcl : cs.length ≤ 1048576) (hcs : ∀ c ∈ cs, c.length ≤ 1048576) (_ : ∀ c ∈ cs, ∀ l ∈ c, IntOk .i64 l) :
    PureC Try.prog 13 [.d (cnf n cs)] (.d (.bool true)) := law13 n cs (IntOk.le hn) hcl hcs
end Go.Proofs.Ytafeehlpmdligaa
