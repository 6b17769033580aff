/- Part 10 of the texts that stand behind this law. -/
import Derived.Test.YtjjmedgibcffhaaZc9
/- assizeref05.Check. -/
namespace Go.Proofs.Ytjjmedgibcffhaa
open Go.RowKit M
set_option linter.unusedSimpArgs false
set_option linter.unusedVariables false
def histB' (h : HistD) : Blk := .box [.d (strs h.keys), .d (.sl (h.txns.map encTxn))]
theorem errno_f' : errnoOf false = 1 := rfl
theorem errno_t' : errnoOf true = 0 := rfl
theorem book_new {G : Nat → Option Blk} {L k1 k2 k3 k4 k5 : Nat} {O : Nat → Prop} (hL : G L = some (.box [.ms k1 1 0 0, .ms k2 1 0 0, .ms k3 1 0 0, .ms k4 1 0 0, .ms k5 1 0 0]))
    (h1 : G k1 = some (.row 1 [])) (h2 : G k2 = some (.row 1 [])) (h3 : G k3 = some (.row 1 [])) (h4 : G k4 = some (.row 1 [])) (h5 : G k5 = some (.row 1 []))
    (hne : k1 ≠ k2 ∧ k1 ≠ k3 ∧ k1 ≠ k4 ∧ k1 ≠ k5 ∧ k2 ≠ k3 ∧ k2 ≠ k4 ∧ k2 ≠ k5 ∧ k3 ≠ k4 ∧ k3 ≠ k5 ∧ k4 ≠ k5) (o : O L ∧ O k1 ∧ O k2 ∧ O k3 ∧ O k4 ∧ O k5) : BookAt G L Bk.empty O :=
  ⟨k1, k2, k3, k4, k5, [], fun _ => 0, hL, h1, h2, h3, h4, h5, rfl, fun k hk => by simp at hk, fun k hk => absurd (by simp [Bk.empty]) hk, fun k k' hk => absurd (by simp [Bk.empty]) hk, o.1, o.2.1, o.2.2.1, o.2.2.2.1, o.2.2.2.2.1, o.2.2.2.2.2, hne⟩
theorem check45_one {keys : List ByteArray} (hk : SlOk (fun s => s.size ≤ 140737488351232) 16 keys) {t : TxnD} (ht : TxnOk t) (hl : t.ops.length ≤ 16) : PureC Try.prog 45 [.d (evs [evOf keys t])] (.d (.int .i64 (if eventOk (evOf keys t) then 0 else 1))) := by
  have := check45 [evOf keys t] (evOf_ok hk ht (by simp only [evOf, List.length_map]; have := (List.takeWhile_sublist (okKey keys.length) (l := t.ops)).length_le; omega))
  rw [listOk_one] at this
  exact this
set_option maxHeartbeats 8000000 in
theorem check33 (h : HistD) (hh : HistOk h) : PureC Try.prog 33 [.d (encHist h)] (.d (.int .i64 (errnoOf (checkB h)))) := by
  intro S
  refine CallM.pure' (by rfl) (CallM.start (n := 111) Try.func33 rfl rfl (by simp) (by simp only [argL, Nat.reduceAdd] <;> rfl) ?_)
  intro hH
  obtain ⟨H, hHe⟩ : ∃ H, H = S.get := ⟨_, rfl⟩
  obtain ⟨n0, hne⟩ : ∃ n0, n0 = S.next := ⟨_, rfl⟩
  rw [← hHe, ← hne] at hH ⊢
  have hb := hh.b
  have hb1 := hb.keys
  have hb2 := hb.len
  have hnames := names55 h.keys (by omega)
  obtain ⟨nm, hnm⟩ : ∃ nm, nm = namesB h.keys := ⟨_, rfl⟩
  rw [← hnm] at hnames
  ((repeat refine WpM.seq ?_); have z_ex := (And.intro @encHist.eq_1 True.intro); refine WpM.regPE [] [(1, _)] (by (refine s_o [(0, _)] rfl rfl rfl z_su rfl q_box z_fp z_ss ?_; refine s_o [] rfl rfl rfl z_su rfl q_move z_fp z_ss ?_; exact wpS_nil ⟨rfl, rfl⟩)) z_su ?_; clear z_ex)
  cases nm with
  | false =>
    have hr : checkB h = false := by rw [checkB, ← hnm]; rfl
    rw [hr, errno_f']
    ((repeat refine WpM.seq ?_); have z_ex := True.intro; refine WpM.regPE [] [(1, _), (19, _)] (by (refine s_o [(1, _)] rfl rfl rfl z_su rfl q_fieldAddr z_fp z_ss ?_; refine s_o [(10, _)] rfl rfl rfl z_su rfl q_load z_fp z_ss ?_; refine s_pure (callOf_eq rfl rfl rfl (mlk_tmp z_lk mlk_nil)) (hnames) rfl rfl z_ip z_fp ?_; refine s_o [(12, _)] rfl rfl rfl z_su rfl q_unOp z_fp z_ss ?_; refine s_o [(13, _)] rfl rfl rfl z_su rfl q_move z_fp z_ss ?_; refine s_wit ?_; intro z_g; (first | refine s_skip rfl z_g z_fp ?_ | (refine s_o [(1, _)] rfl z_g rfl z_su rfl q_fieldAddr z_fp z_ss ?_)); clear z_g; refine s_wit ?_; intro z_g; (first | refine s_skip rfl z_g z_fp ?_ | (refine s_o [(15, _)] rfl z_g rfl z_su rfl q_load z_fp z_ss ?_)); clear z_g; refine s_wit ?_; intro z_g; (first | refine s_skip rfl z_g z_fp ?_ | (refine s_o [(16, _)] rfl z_g rfl z_su rfl q_full z_fp z_ss ?_)); clear z_g; refine s_wit ?_; intro z_g; (first | refine s_skip rfl z_g z_fp ?_ | (refine s_o [(17, _)] rfl z_g rfl z_su rfl q_full z_fp z_ss ?_)); clear z_g; refine s_o [(14, _), (18, _)] rfl rfl rfl z_su rfl q_move z_fp z_ss ?_; exact wpS_nil ⟨rfl, rfl⟩)) z_su ?_; clear z_ex)
    ((repeat refine WpM.seq ?_); refine WpM.condT (by (simp (maxSteps := 2000000) (disch := omega) [go_sem, -List.map_map])) ?_)
    ((repeat refine WpM.seq ?_); have z_ex := True.intro; refine WpM.regPE [] [(2, _)] (by (refine s_o [] rfl rfl rfl z_su rfl q_move z_fp z_ss ?_; exact wpS_nil ⟨rfl, rfl⟩)) z_su ?_; clear z_ex)
    refine WpM.ret ?_
    exact ⟨.inr rfl, Upd.done ⟨_, (by (simp (maxSteps := 2000000) (disch := omega) [go_sem, -List.map_map, resV, resVs, resV1])), rfl, fun m k _ hk => by have := hH _ _ hk; (simp (maxSteps := 2000000) (disch := omega) [go_sem, -List.map_map, hk])⟩⟩
  | true =>
  by_cases ht32 : 32 < h.txns.length
  · have hr : checkB h = false := by simp [checkB, Nat.not_le.2 ht32]
    rw [hr, errno_f']
    have ht32' : (32 : Int) < h.txns.length := by omega
    ((repeat refine WpM.seq ?_); have z_ex := (And.intro @ht32' True.intro); refine WpM.regPE [] [(1, _), (19, _)] (by (refine s_o [(1, _)] rfl rfl rfl z_su rfl q_fieldAddr z_fp z_ss ?_; refine s_o [(10, _)] rfl rfl rfl z_su rfl q_load z_fp z_ss ?_; refine s_pure (callOf_eq rfl rfl rfl (mlk_tmp z_lk mlk_nil)) (hnames) rfl rfl z_ip z_fp ?_; refine s_o [(12, _)] rfl rfl rfl z_su rfl q_unOp z_fp z_ss ?_; refine s_o [(13, _)] rfl rfl rfl z_su rfl q_move z_fp z_ss ?_; refine s_wit ?_; intro z_g; (first | refine s_skip rfl z_g z_fp ?_ | (refine s_o [(1, _)] rfl z_g rfl z_su rfl q_fieldAddr z_fp z_ss ?_)); clear z_g; refine s_wit ?_; intro z_g; (first | refine s_skip rfl z_g z_fp ?_ | (refine s_o [(15, _)] rfl z_g rfl z_su rfl q_load z_fp z_ss ?_)); clear z_g; refine s_wit ?_; intro z_g; (first | refine s_skip rfl z_g z_fp ?_ | (refine s_o [(16, _)] rfl z_g rfl z_su rfl q_full z_fp z_ss ?_)); clear z_g; refine s_wit ?_; intro z_g; (first | refine s_skip rfl z_g z_fp ?_ | (refine s_o [(17, _)] rfl z_g rfl z_su rfl q_full z_fp z_ss ?_)); clear z_g; refine s_o [(14, _), (18, _)] rfl rfl rfl z_su rfl q_move z_fp z_ss ?_; exact wpS_nil ⟨rfl, rfl⟩)) z_su ?_; clear z_ex)
    ((repeat refine WpM.seq ?_); refine WpM.condT (by (simp (maxSteps := 2000000) (disch := omega) [go_sem, -List.map_map, ht32'])) ?_)
    ((repeat refine WpM.seq ?_); have z_ex := True.intro; refine WpM.regPE [] [(2, _)] (by (refine s_o [] rfl rfl rfl z_su rfl q_move z_fp z_ss ?_; exact wpS_nil ⟨rfl, rfl⟩)) z_su ?_; clear z_ex)
    refine WpM.ret ?_
    exact ⟨.inr rfl, Upd.done ⟨_, (by (simp (maxSteps := 2000000) (disch := omega) [go_sem, -List.map_map, resV, resVs, resV1])), rfl, fun m k _ hk => by have := hH _ _ hk; (simp (maxSteps := 2000000) (disch := omega) [go_sem, -List.map_map, hk])⟩⟩
  have ht32' : ¬ (32 : Int) < h.txns.length := by omega
  have ht32'' : (h.txns.length : Int) ≤ 32 := by omega
  ((repeat refine WpM.seq ?_); have z_ex := (And.intro @ht32' (And.intro @ht32'' True.intro)); refine WpM.regPE [] [(1, _), (19, _)] (by (refine s_o [(1, _)] rfl rfl rfl z_su rfl q_fieldAddr z_fp z_ss ?_; refine s_o [(10, _)] rfl rfl rfl z_su rfl q_load z_fp z_ss ?_; refine s_pure (callOf_eq rfl rfl rfl (mlk_tmp z_lk mlk_nil)) (hnames) rfl rfl z_ip z_fp ?_; refine s_o [(12, _)] rfl rfl rfl z_su rfl q_unOp z_fp z_ss ?_; refine s_o [(13, _)] rfl rfl rfl z_su rfl q_move z_fp z_ss ?_; refine s_wit ?_; intro z_g; (first | refine s_skip rfl z_g z_fp ?_ | (refine s_o [(1, _)] rfl z_g rfl z_su rfl q_fieldAddr z_fp z_ss ?_)); clear z_g; refine s_wit ?_; intro z_g; (first | refine s_skip rfl z_g z_fp ?_ | (refine s_o [(15, _)] rfl z_g rfl z_su rfl q_load z_fp z_ss ?_)); clear z_g; refine s_wit ?_; intro z_g; (first | refine s_skip rfl z_g z_fp ?_ | (refine s_o [(16, _)] rfl z_g rfl z_su rfl q_full z_fp z_ss ?_)); clear z_g; refine s_wit ?_; intro z_g; (first | refine s_skip rfl z_g z_fp ?_ | (refine s_o [(17, _)] rfl z_g rfl z_su rfl q_full z_fp z_ss ?_)); clear z_g; refine s_o [(14, _), (18, _)] rfl rfl rfl z_su rfl q_move z_fp z_ss ?_; exact wpS_nil ⟨rfl, rfl⟩)) z_su ?_; clear z_ex)
  ((repeat refine WpM.seq ?_); refine WpM.condF (by (simp (maxSteps := 2000000) (disch := omega) [go_sem, -List.map_map, ht32', ht32''])) ?_)
  refine WpM.skip ?_
  ((repeat refine WpM.seq ?_); have z_ex := True.intro; refine WpM.regPE [] [(1, _), (3, _)] (by (refine s_o [] rfl rfl rfl z_su rfl q_build z_fp z_ss ?_; refine s_o [(20, _)] rfl rfl rfl z_su rfl q_box z_fp z_ss ?_; refine s_o [(21, _)] rfl rfl rfl z_su rfl q_move z_fp z_ss ?_; exact wpS_nil ⟨rfl, rfl⟩)) z_su ?_; clear z_ex)
  refine Upd.wp (Upd.ghostIn (n0 + 12) 0 1 (cs := [.nil, .nil, .nil, .nil, .nil]) (by (simp (maxSteps := 2000000) (disch := omega) [go_sem, -List.map_map])) (.inl rfl) (Upd.ghostIn (n0 + 12) 1 1 (cs := [.ms (n0 + 14) 1 0 0, .nil, .nil, .nil, .nil]) (by (simp (maxSteps := 2000000) (disch := omega) [go_sem, -List.map_map])) (.inl rfl) (Upd.ghostIn (n0 + 12) 2 1 (cs := [.ms (n0 + 14) 1 0 0, .ms (n0 + 15) 1 0 0, .nil, .nil, .nil]) (by (simp (maxSteps := 2000000) (disch := omega) [go_sem, -List.map_map])) (.inl rfl) (Upd.ghostIn (n0 + 12) 3 1 (cs := [.ms (n0 + 14) 1 0 0, .ms (n0 + 15) 1 0 0, .ms (n0 + 16) 1 0 0, .nil, .nil]) (by (simp (maxSteps := 2000000) (disch := omega) [go_sem, -List.map_map])) (.inl rfl) (Upd.ghostIn (n0 + 12) 4 1 (cs := [.ms (n0 + 14) 1 0 0, .ms (n0 + 15) 1 0 0, .ms (n0 + 16) 1 0 0, .ms (n0 + 17) 1 0 0, .nil]) (by (simp (maxSteps := 2000000) (disch := omega) [go_sem, -List.map_map])) (.inl rfl) (Upd.done ?_))))))
  refine WpM.less (St.Le.refl _) (frLe_frOf (l := [(1, .ptr n0 0), (3, .ptr (n0 + 12) 0)]) (by (simp (maxSteps := 2000000) (disch := omega) [go_sem, -List.map_map]))) ?_
  refine WpM.norm ?_
  intro nx1 G1 hnx1 hG1 hk1
  have hnx1 : nx1 = n0 + 19 := hnx1
  have hLed1 : BookAt G1 (n0 + 12) Bk.empty (fun m => n0 + 12 ≤ m ∧ m < n0 + 19) := by
    rw [hG1]
    exact book_new (k1 := n0 + 14) (k2 := n0 + 15) (k3 := n0 + 16) (k4 := n0 + 17) (k5 := n0 + 18) (by (simp (maxSteps := 2000000) (disch := omega) [go_sem, -List.map_map])) (by (simp (maxSteps := 2000000) (disch := omega) [go_sem, -List.map_map])) (by (simp (maxSteps := 2000000) (disch := omega) [go_sem, -List.map_map])) (by (simp (maxSteps := 2000000) (disch := omega) [go_sem, -List.map_map])) (by (simp (maxSteps := 2000000) (disch := omega) [go_sem, -List.map_map])) (by (simp (maxSteps := 2000000) (disch := omega) [go_sem, -List.map_map])) (by omega) (by omega)
  have hbx1 : G1 n0 = some (histB' h) := by rw [hG1]; (simp (maxSteps := 2000000) (disch := omega) [go_sem, -List.map_map, histB', strs])
  have hold1 : ∀ m k, H m = some k → G1 m = some k := fun m k hk => by
    have := hH _ _ hk
    rw [hG1]
    (simp (maxSteps := 2000000) (disch := omega) [go_sem, -List.map_map, hk])
  clear hG1 hk1
  subst hnx1
  obtain ⟨L, hL⟩ : ∃ L, L = n0 + 12 := ⟨_, rfl⟩
  rw [← hL] at hLed1 ⊢
  have hnL : n0 < L := by omega
  ((repeat refine WpM.seq ?_); have z_ex := True.intro; refine WpM.regPE [] [(1, _), (3, _), (4, _)] (by (refine s_o [] rfl rfl rfl z_su rfl q_move z_fp z_ss ?_; exact wpS_nil ⟨rfl, rfl⟩)) z_su ?_; clear z_ex)
  ((repeat refine WpM.seq ?_); refine WpM.block ?_)
  refine WpM.loop (fun (i : Nat) fr S => i ≤ h.txns.length ∧ ∃ nx G b O, S = ⟨nx, [], G⟩ ∧ checkSt h i = some b ∧ BookAt G L b O ∧ (∀ m, O m → n0 < m ∧ m < nx) ∧ n0 < nx ∧ G n0 = some (histB' h) ∧ (∀ m k, H m = some k → G m = some k) ∧ fr = frOf [(1, .ptr n0 0), (3, .ptr L 0), (4, .d (.int .i64 i))]) (fun i => h.txns.length - i) 0 (St.Le.refl _) (Sub.le z_su) ⟨by omega, _, G1, Bk.empty, _, rfl, rfl, hLed1, fun m hm => ⟨by omega, by omega⟩, by omega, hbx1, hold1, rfl⟩ ?_
  clear hLed1 hbx1 hold1 hL
  rintro i fr S' ⟨hi, nx2, G, b, O, rfl, hst, hLed, hO, hn2, hbx, hold, rfl⟩
  refine WpM.known fun hGk => ?_
  have hGk : ∀ m k, G m = some k → m < nx2 := hGk
  ((repeat refine WpM.seq ?_); have z_ex := (And.intro @hbx (And.intro @histB'.eq_1 True.intro)); refine WpM.regPE [] [(1, _), (3, _), (4, _), (26, _)] (by (refine s_o [(4, _)] rfl rfl rfl z_su rfl q_move z_fp z_ss ?_; refine s_o [(1, _)] rfl rfl rfl z_su rfl q_fieldAddr z_fp z_ss ?_; refine s_o [(23, _)] rfl rfl rfl z_su rfl q_load z_fp z_ss ?_; refine s_o [(24, _)] rfl rfl rfl z_su rfl q_full z_fp z_ss ?_; refine s_o [(22, _), (25, _)] rfl rfl rfl z_su rfl q_full z_fp z_ss ?_; exact wpS_nil ⟨rfl, rfl⟩)) z_su ?_; clear z_ex)
  by_cases hit : i < h.txns.length
  · ((repeat refine WpM.seq ?_); refine WpM.condT (by (simp (maxSteps := 2000000) (disch := omega) [go_sem, -List.map_map, hit])) ?_)
    refine WpM.skip ?_
    ((repeat refine WpM.seq ?_); refine WpM.block ?_)
    obtain ⟨t, ht⟩ : ∃ t, t = h.txns[i] := ⟨_, rfl⟩
    have hget : (h.txns.map encTxn)[i]? = some (encTxn t) := by simp [hit, ht]
    have htok := hh.2.2 t (ht ▸ List.getElem_mem _)
    have hstep := stepT_get (b := b) hit
    have hplaced := placed56 h.txns (by omega) i hit
    rw [← ht] at hstep hplaced
    obtain ⟨ev, hev⟩ : ∃ ev, ev = evOf h.keys t := ⟨_, rfl⟩
    obtain ⟨pl, hpl⟩ : ∃ pl, pl = placedB (h.txns.take i) t := ⟨_, rfl⟩
    rw [← hev] at hstep
    rw [← hpl] at hplaced hstep
    ((repeat refine WpM.seq ?_); have z_ex := (And.intro @hbx (And.intro @histB'.eq_1 (And.intro @hget (And.intro @hit (And.intro @encTxn.eq_1 True.intro))))); refine WpM.regPE [] [(1, _), (3, _), (4, _), (5, _)] (by (refine s_o [(1, _)] rfl rfl rfl z_su rfl q_fieldAddr z_fp z_ss ?_; refine s_o [(29, _)] rfl rfl rfl z_su rfl q_load z_fp z_ss ?_; refine s_o [(4, _)] rfl rfl rfl z_su rfl q_move z_fp z_ss ?_; refine s_o [(30, _), (31, _)] rfl rfl rfl z_su rfl q_full z_fp z_ss ?_; refine s_o [(32, _)] rfl rfl rfl z_su rfl q_load z_fp z_ss ?_; refine s_o [] rfl rfl rfl z_su rfl q_alloc z_fp z_ss ?_; refine s_o [(5, _), (33, _)] rfl rfl rfl z_su rfl q_store z_fp z_ss ?_; exact wpS_nil ⟨rfl, rfl⟩)) z_su ?_; clear z_ex)
    have badOk : evOkB h.keys t = false → checkB h = false := fun hb => checkB_bad hit hst (by rw [hstep, hb]; rfl)
    cases pl with
    | false =>
      rw [checkB_bad hit hst (by rw [hstep]; simp), errno_f']
      ((repeat refine WpM.seq ?_); have z_ex := (And.intro @hbx (And.intro @histB'.eq_1 True.intro)); refine WpM.regPE [] [(1, _), (3, _), (4, _), (5, _), (44, _)] (by (refine s_o [(1, _)] rfl rfl rfl z_su rfl q_fieldAddr z_fp z_ss ?_; refine s_o [(34, _)] rfl rfl rfl z_su rfl q_load z_fp z_ss ?_; refine s_o [(4, _)] rfl rfl rfl z_su rfl q_move z_fp z_ss ?_; refine s_pure (callOf_eq rfl rfl rfl (mlk_tmp z_lk (mlk_tmp z_lk mlk_nil))) (hplaced) rfl rfl z_ip z_fp ?_; refine s_o [(37, _)] rfl rfl rfl z_su rfl q_unOp z_fp z_ss ?_; refine s_o [(38, _)] rfl rfl rfl z_su rfl q_move z_fp z_ss ?_; refine s_wit ?_; intro z_g; (first | refine s_skip rfl z_g z_fp ?_ | (refine s_o [(5, _)] rfl z_g rfl z_su rfl q_fieldAddr z_fp z_ss ?_)); clear z_g; refine s_wit ?_; intro z_g; (first | refine s_skip rfl z_g z_fp ?_ | (refine s_o [(40, _)] rfl z_g rfl z_su rfl q_load z_fp z_ss ?_)); clear z_g; refine s_wit ?_; intro z_g; (first | refine s_skip rfl z_g z_fp ?_ | (refine s_o [(41, _)] rfl z_g rfl z_su rfl q_full z_fp z_ss ?_)); clear z_g; refine s_wit ?_; intro z_g; (first | refine s_skip rfl z_g z_fp ?_ | (refine s_o [(42, _)] rfl z_g rfl z_su rfl q_full z_fp z_ss ?_)); clear z_g; refine s_o [(39, _), (43, _)] rfl rfl rfl z_su rfl q_move z_fp z_ss ?_; exact wpS_nil ⟨rfl, rfl⟩)) z_su ?_; clear z_ex)
      ((repeat refine WpM.seq ?_); refine WpM.condT (by (simp (maxSteps := 2000000) (disch := omega) [go_sem, -List.map_map])) ?_)
      ((repeat refine WpM.seq ?_); have z_ex := True.intro; refine WpM.regPE [] [(2, _)] (by (refine s_o [] rfl rfl rfl z_su rfl q_move z_fp z_ss ?_; exact wpS_nil ⟨rfl, rfl⟩)) z_su ?_; clear z_ex)
      refine WpM.ret ?_
      exact ⟨.inr rfl, Upd.done ⟨_, (by (simp (maxSteps := 2000000) (disch := omega) [go_sem, -List.map_map, resV, resVs, resV1])), rfl, fun m k _ hk => by have h9 := hH _ _ hk; have h8 := hold m k hk; have h7 := hGk m k h8; (simp (maxSteps := 2000000) (disch := omega) [go_sem, -List.map_map, h8])⟩⟩
    | true =>
      by_cases h16 : 16 < t.ops.length
      · rw [badOk (evOkB_long h16), errno_f']
        have h16' : (16 : Int) < t.ops.length := by omega
        ((repeat refine WpM.seq ?_); have z_ex := (And.intro @hbx (And.intro @histB'.eq_1 (And.intro @h16' True.intro))); refine WpM.regPE [] [(1, _), (3, _), (4, _), (5, _), (44, _)] (by (refine s_o [(1, _)] rfl rfl rfl z_su rfl q_fieldAddr z_fp z_ss ?_; refine s_o [(34, _)] rfl rfl rfl z_su rfl q_load z_fp z_ss ?_; refine s_o [(4, _)] rfl rfl rfl z_su rfl q_move z_fp z_ss ?_; refine s_pure (callOf_eq rfl rfl rfl (mlk_tmp z_lk (mlk_tmp z_lk mlk_nil))) (hplaced) rfl rfl z_ip z_fp ?_; refine s_o [(37, _)] rfl rfl rfl z_su rfl q_unOp z_fp z_ss ?_; refine s_o [(38, _)] rfl rfl rfl z_su rfl q_move z_fp z_ss ?_; refine s_wit ?_; intro z_g; (first | refine s_skip rfl z_g z_fp ?_ | (refine s_o [(5, _)] rfl z_g rfl z_su rfl q_fieldAddr z_fp z_ss ?_)); clear z_g; refine s_wit ?_; intro z_g; (first | refine s_skip rfl z_g z_fp ?_ | (refine s_o [(40, _)] rfl z_g rfl z_su rfl q_load z_fp z_ss ?_)); clear z_g; refine s_wit ?_; intro z_g; (first | refine s_skip rfl z_g z_fp ?_ | (refine s_o [(41, _)] rfl z_g rfl z_su rfl q_full z_fp z_ss ?_)); clear z_g; refine s_wit ?_; intro z_g; (first | refine s_skip rfl z_g z_fp ?_ | (refine s_o [(42, _)] rfl z_g rfl z_su rfl q_full z_fp z_ss ?_)); clear z_g; refine s_o [(39, _), (43, _)] rfl rfl rfl z_su rfl q_move z_fp z_ss ?_; exact wpS_nil ⟨rfl, rfl⟩)) z_su ?_; clear z_ex)
        ((repeat refine WpM.seq ?_); refine WpM.condT (by (simp (maxSteps := 2000000) (disch := omega) [go_sem, -List.map_map, h16'])) ?_)
        ((repeat refine WpM.seq ?_); have z_ex := True.intro; refine WpM.regPE [] [(2, _)] (by (refine s_o [] rfl rfl rfl z_su rfl q_move z_fp z_ss ?_; exact wpS_nil ⟨rfl, rfl⟩)) z_su ?_; clear z_ex)
        refine WpM.ret ?_
        exact ⟨.inr rfl, Upd.done ⟨_, (by (simp (maxSteps := 2000000) (disch := omega) [go_sem, -List.map_map, resV, resVs, resV1])), rfl, fun m k _ hk => by have h9 := hH _ _ hk; have h8 := hold m k hk; have h7 := hGk m k h8; (simp (maxSteps := 2000000) (disch := omega) [go_sem, -List.map_map, h8])⟩⟩
      · have h16' : ¬ (16 : Int) < t.ops.length := by omega
        have h16'' : (t.ops.length : Int) ≤ 16 := by omega
        have h16n : t.ops.length ≤ 16 := by omega
        ((repeat refine WpM.seq ?_); have z_ex := (And.intro @hbx (And.intro @histB'.eq_1 (And.intro @h16' (And.intro @h16'' True.intro)))); refine WpM.regPE [] [(1, _), (3, _), (4, _), (5, _), (44, _)] (by (refine s_o [(1, _)] rfl rfl rfl z_su rfl q_fieldAddr z_fp z_ss ?_; refine s_o [(34, _)] rfl rfl rfl z_su rfl q_load z_fp z_ss ?_; refine s_o [(4, _)] rfl rfl rfl z_su rfl q_move z_fp z_ss ?_; refine s_pure (callOf_eq rfl rfl rfl (mlk_tmp z_lk (mlk_tmp z_lk mlk_nil))) (hplaced) rfl rfl z_ip z_fp ?_; refine s_o [(37, _)] rfl rfl rfl z_su rfl q_unOp z_fp z_ss ?_; refine s_o [(38, _)] rfl rfl rfl z_su rfl q_move z_fp z_ss ?_; refine s_wit ?_; intro z_g; (first | refine s_skip rfl z_g z_fp ?_ | (refine s_o [(5, _)] rfl z_g rfl z_su rfl q_fieldAddr z_fp z_ss ?_)); clear z_g; refine s_wit ?_; intro z_g; (first | refine s_skip rfl z_g z_fp ?_ | (refine s_o [(40, _)] rfl z_g rfl z_su rfl q_load z_fp z_ss ?_)); clear z_g; refine s_wit ?_; intro z_g; (first | refine s_skip rfl z_g z_fp ?_ | (refine s_o [(41, _)] rfl z_g rfl z_su rfl q_full z_fp z_ss ?_)); clear z_g; refine s_wit ?_; intro z_g; (first | refine s_skip rfl z_g z_fp ?_ | (refine s_o [(42, _)] rfl z_g rfl z_su rfl q_full z_fp z_ss ?_)); clear z_g; refine s_o [(39, _), (43, _)] rfl rfl rfl z_su rfl q_move z_fp z_ss ?_; exact wpS_nil ⟨rfl, rfl⟩)) z_su ?_; clear z_ex)
        ((repeat refine WpM.seq ?_); refine WpM.condF (by (simp (maxSteps := 2000000) (disch := omega) [go_sem, -List.map_map, h16', h16''])) ?_)
        refine WpM.skip ?_
        ((repeat refine WpM.seq ?_); have z_ex := True.intro; refine WpM.regPE [] [(1, _), (3, _), (4, _), (5, _), (6, _)] (by (refine s_o [(5, _)] rfl rfl rfl z_su rfl q_fieldAddr z_fp z_ss ?_; refine s_o [(45, _)] rfl rfl rfl z_su rfl q_load z_fp z_ss ?_; refine s_o [(46, _)] rfl rfl rfl z_su rfl q_build z_fp z_ss ?_; refine s_o [] rfl rfl rfl z_su rfl q_alloc z_fp z_ss ?_; refine s_o [(6, _), (47, _)] rfl rfl rfl z_su rfl q_store z_fp z_ss ?_; exact wpS_nil ⟨rfl, rfl⟩)) z_su ?_; clear z_ex)
        refine Upd.wp (Upd.ghostIn (nx2 + 25) 2 5 (cs := [.d (.int .i64 0), .d (.int .i64 t.status), .nil]) (by (simp (maxSteps := 2000000) (disch := omega) [go_sem, -List.map_map])) (.inl (by rfl)) (Upd.done ?_))
        refine WpM.less (St.Le.refl _) (frLe_frOf (l := [(1, .ptr n0 0), (3, .ptr L 0), (4, .d (.int .i64 i)), (5, .ptr (nx2 + 10) 0), (6, .ptr (nx2 + 25) 0)]) (by (simp (maxSteps := 2000000) (disch := omega) [go_sem, -List.map_map]))) ?_
        ((repeat refine WpM.seq ?_); have z_ex := True.intro; refine WpM.regPE [] [(1, _), (3, _), (4, _), (5, _), (6, _), (7, _)] (by (refine s_o [] rfl rfl rfl z_su rfl q_move z_fp z_ss ?_; exact wpS_nil ⟨rfl, rfl⟩)) z_su ?_; clear z_ex)
        ((repeat refine WpM.seq ?_); refine WpM.block ?_)
        refine WpM.loop (fun (j : Nat) fr S => j ≤ t.ops.length ∧ (∀ i (h' : i < t.ops.length), i < j → okKey h.keys.length t.ops[i] = true) ∧ ∃ nx nr ys, nx2 + 26 ≤ nr ∧ nr < nx ∧ ys = ((t.ops.take j).map fun o => V.d (encCall (callOf' h.keys o))) ∧ fr = frOf [(1, .ptr n0 0), (3, .ptr L 0), (4, .d (.int .i64 i)), (5, .ptr (nx2 + 10) 0), (6, .ptr (nx2 + 25) 0), (7, .d (.int .i64 j))] ∧ S = ⟨nx, [(nx2 + 10, some (.box [.d (.int .i64 t.proc), .d (.int .i64 t.status), .d (.int .i64 t.frm), .d (.int .i64 t.to), .d (.sl (t.ops.map encOp))])), (nx2 + 25, some (.box [.d (.int .i64 0), .d (.int .i64 t.status), .ms nr 5 0 ys.length])), (nr, some (.row 5 ys))], G⟩) (fun j => t.ops.length - j) 0 (St.Le.refl _) (Sub.le z_su) ⟨by omega, by simp, nx2 + 29, nx2 + 27, [], by omega, by omega, by simp, rfl, by (simp (maxSteps := 2000000) (disch := omega) [go_sem, -List.map_map])⟩ ?_
        rintro j fr S' ⟨hj, hall, nx, nr, ys, hnr, hnx, hys, rfl, rfl⟩
        have hyl : ys.length = j := by rw [hys]; simp; omega
        ((repeat refine WpM.seq ?_); have z_ex := True.intro; refine WpM.regPE [] [(1, _), (3, _), (4, _), (5, _), (6, _), (7, _), (52, _)] (by (refine s_o [(7, _)] rfl rfl rfl z_su rfl q_move z_fp z_ss ?_; refine s_o [(5, _)] rfl rfl rfl z_su rfl q_fieldAddr z_fp z_ss ?_; refine s_o [(49, _)] rfl rfl rfl z_su rfl q_load z_fp z_ss ?_; refine s_o [(50, _)] rfl rfl rfl z_su rfl q_full z_fp z_ss ?_; refine s_o [(48, _), (51, _)] rfl rfl rfl z_su rfl q_full z_fp z_ss ?_; exact wpS_nil ⟨rfl, rfl⟩)) z_su ?_; clear z_ex)
        by_cases hlt : j < t.ops.length
        · ((repeat refine WpM.seq ?_); refine WpM.condT (by (simp (maxSteps := 2000000) (disch := omega) [go_sem, -List.map_map, hlt])) ?_)
          refine WpM.skip ?_
          ((repeat refine WpM.seq ?_); refine WpM.block ?_)
          obtain ⟨o, ho⟩ : ∃ o, o = t.ops[j] := ⟨_, rfl⟩
          have hgeto : (t.ops.map encOp)[j]? = some (encOp o) := by simp [hlt, ho]
          obtain ⟨ok1, ok2, ok3, ok4⟩ := htok.2.2.2.2.2 o (ho ▸ List.getElem_mem _)
          ((repeat refine WpM.seq ?_); have z_ex := (And.intro @hgeto (And.intro @encOp.eq_1 True.intro)); refine WpM.regPE [] [(1, _), (3, _), (4, _), (5, _), (6, _), (7, _), (8, _)] (by (refine s_o [(5, _)] rfl rfl rfl z_su rfl q_fieldAddr z_fp z_ss ?_; refine s_o [(55, _)] rfl rfl rfl z_su rfl q_load z_fp z_ss ?_; refine s_o [(7, _)] rfl rfl rfl z_su rfl q_move z_fp z_ss ?_; refine s_o [(56, _), (57, _)] rfl rfl rfl z_su rfl q_full z_fp z_ss ?_; refine s_o [(58, _)] rfl rfl rfl z_su rfl q_load z_fp z_ss ?_; refine s_o [] rfl rfl rfl z_su rfl q_alloc z_fp z_ss ?_; refine s_o [(8, _), (59, _)] rfl rfl rfl z_su rfl q_store z_fp z_ss ?_; exact wpS_nil ⟨rfl, rfl⟩)) z_su ?_; clear z_ex)
          by_cases hk : okKey h.keys.length o = true
          · obtain ⟨hk1, hk2⟩ : 0 ≤ o.key ∧ o.key < h.keys.length := by simpa [okKey] using hk
            obtain ⟨kn, hkn⟩ : ∃ kn : Nat, o.key = kn := ⟨o.key.toNat, by omega⟩
            have hkl : kn < h.keys.length := by omega
            have hkx : h.keys[kn]? = some (h.keys.getD kn ByteArray.empty) := by simp [hkl]
            have hcall : callOf' h.keys o = ⟨o.kind, h.keys.getD kn ByteArray.empty, o.arg, o.got, o.vals⟩ := by simp [callOf', hkn]
            obtain ⟨key, hkey⟩ : ∃ key, key = h.keys.getD kn ByteArray.empty := ⟨_, rfl⟩
            have hkg : (h.keys.map D.str)[kn]? = some (.str key) := by rw [List.getElem?_map, hkx, hkey]; rfl
            rw [← hkey] at hcall
            have hn1 : ¬ ((kn : Int) < 0) := by omega
            have hn2 : ¬ ((h.keys.length : Int) ≤ kn) := by omega
            ((repeat refine WpM.seq ?_); have z_ex := (And.intro @hbx (And.intro @histB'.eq_1 (And.intro @hkn (And.intro @hn1 (And.intro @hn2 (And.intro @strs.eq_1 (And.intro @hkl True.intro))))))); refine WpM.regPE [] [(1, _), (3, _), (4, _), (5, _), (6, _), (7, _), (8, _), (70, _)] (by (refine s_o [(8, _)] rfl rfl rfl z_su rfl q_fieldAddr z_fp z_ss ?_; refine s_o [(60, _)] rfl rfl rfl z_su rfl q_load z_fp z_ss ?_; refine s_o [(61, _)] rfl rfl rfl z_su rfl q_full z_fp z_ss ?_; refine s_o [(62, _)] rfl rfl rfl z_su rfl q_move z_fp z_ss ?_; refine s_wit ?_; intro z_g; (first | refine s_skip rfl z_g z_fp ?_ | (refine s_o [(8, _)] rfl z_g rfl z_su rfl q_fieldAddr z_fp z_ss ?_)); clear z_g; refine s_wit ?_; intro z_g; (first | refine s_skip rfl z_g z_fp ?_ | (refine s_o [(64, _)] rfl z_g rfl z_su rfl q_load z_fp z_ss ?_)); clear z_g; refine s_wit ?_; intro z_g; (first | refine s_skip rfl z_g z_fp ?_ | (refine s_o [(1, _)] rfl z_g rfl z_su rfl q_fieldAddr z_fp z_ss ?_)); clear z_g; refine s_wit ?_; intro z_g; (first | refine s_skip rfl z_g z_fp ?_ | (refine s_o [(66, _)] rfl z_g rfl z_su rfl q_load z_fp z_ss ?_)); clear z_g; refine s_wit ?_; intro z_g; (first | refine s_skip rfl z_g z_fp ?_ | (refine s_o [(67, _)] rfl z_g rfl z_su rfl q_full z_fp z_ss ?_)); clear z_g; refine s_wit ?_; intro z_g; (first | refine s_skip rfl z_g z_fp ?_ | (refine s_o [(65, _), (68, _)] rfl z_g rfl z_su rfl q_full z_fp z_ss ?_)); clear z_g; refine s_o [(63, _), (69, _)] rfl rfl rfl z_su rfl q_move z_fp z_ss ?_; exact wpS_nil ⟨rfl, rfl⟩)) z_su ?_; clear z_ex)
            ((repeat refine WpM.seq ?_); refine WpM.condF (by (simp (maxSteps := 2000000) (disch := omega) [go_sem, -List.map_map, hn1, hn2])) ?_)
            refine WpM.skip ?_
            have hys' : ys ++ [V.d (encCall (callOf' h.keys o))] = (t.ops.take (j + 1)).map (fun o => V.d (encCall (callOf' h.keys o))) := by rw [hys, List.take_succ_eq_append_getElem hlt, ← ho]; simp
            rw [hcall] at hys'
            have hall' : ∀ i (h' : i < t.ops.length), i < j + 1 → okKey h.keys.length t.ops[i] = true := fun i h' hi => by
              rcases Nat.lt_or_ge i j with h2 | h2
              · exact hall i h' h2
              · obtain rfl : i = j := by omega
                rw [← ho]; exact hk
            ((repeat refine WpM.seq ?_); have z_ex := (And.intro @hbx (And.intro @histB'.eq_1 (And.intro @hkn (And.intro @hn1 (And.intro @hn2 (And.intro @strs.eq_1 (And.intro @hkl (And.intro @hkg True.intro)))))))); refine WpM.drwPE [] [(1, _), (3, _), (4, _), (5, _), (6, _), (7, _)] mixed (by kernel_rfl) (by kernel_rfl) [(1, 17)] (by kernel_rfl) (by (refine d_o [(6, _)] rfl rfl rfl z_su rfl q_fieldAddr z_fp z_ss rfl ?_; refine d_o [(71, _)] rfl rfl rfl z_su rfl q_load z_fp z_ss rfl ?_; refine d_o [(8, _)] rfl rfl rfl z_su rfl q_fieldAddr z_fp z_ss rfl ?_; refine d_o [(73, _)] rfl rfl rfl z_su rfl q_load z_fp z_ss rfl ?_; refine d_o [(1, _)] rfl rfl rfl z_su rfl q_fieldAddr z_fp z_ss rfl ?_; refine d_o [(75, _)] rfl rfl rfl z_su rfl q_load z_fp z_ss rfl ?_; refine d_o [(8, _)] rfl rfl rfl z_su rfl q_fieldAddr z_fp z_ss rfl ?_; refine d_o [(77, _)] rfl rfl rfl z_su rfl q_load z_fp z_ss rfl ?_; refine d_o [(76, _), (78, _)] rfl rfl rfl z_su rfl q_full z_fp z_ss rfl ?_; refine d_o [(79, _)] rfl rfl rfl z_su rfl q_load z_fp z_ss rfl ?_; refine d_o [(8, _)] rfl rfl rfl z_su rfl q_fieldAddr z_fp z_ss rfl ?_; refine d_o [(81, _)] rfl rfl rfl z_su rfl q_load z_fp z_ss rfl ?_; refine d_o [(8, _)] rfl rfl rfl z_su rfl q_fieldAddr z_fp z_ss rfl ?_; refine d_o [(83, _)] rfl rfl rfl z_su rfl q_load z_fp z_ss rfl ?_; refine d_o [(8, _)] rfl rfl rfl z_su rfl q_fieldAddr z_fp z_ss rfl ?_; refine d_o [(85, _)] rfl rfl rfl z_su rfl q_load z_fp z_ss rfl ?_; refine d_o [(74, _), (80, _), (82, _), (84, _), (86, _)] rfl rfl rfl z_su rfl q_build z_fp z_ss rfl ?_; refine d_o [(87, _)] rfl rfl rfl z_su rfl q_full z_fp z_ss rfl ?_; refine d_o [(72, _), (88, _)] rfl rfl rfl z_su rfl q_full z_fp z_ss rfl ?_; refine d_o [(6, _)] rfl rfl rfl z_su rfl q_fieldAddr z_fp z_ss rfl ?_; refine d_o [(89, _), (90, _)] rfl rfl rfl z_su rfl q_store z_fp z_ss rfl ?_; exact d_end z_mt z_sn)) z_su ?_; clear z_ex)
            ((repeat refine WpM.seq ?_); have z_ex := (And.intro @wrap_id True.intro); refine WpM.regPE [] [(1, _), (3, _), (4, _), (5, _), (6, _), (7, _)] (by (refine s_o [(7, _)] rfl rfl rfl z_su rfl q_move z_fp z_ss ?_; refine s_o [(53, _)] rfl rfl rfl z_su rfl q_full z_fp z_ss ?_; refine s_o [(54, _)] rfl rfl rfl z_su rfl q_move z_fp z_ss ?_; exact wpS_nil ⟨rfl, rfl⟩)) z_su ?_; clear z_ex)
            exact round_end (x' := j + 1) (le_cut (n0 := nx2) (l' := [(nx2 + 10, some (.box [.d (.int .i64 t.proc), .d (.int .i64 t.status), .d (.int .i64 t.frm), .d (.int .i64 t.to), .d (.sl (t.ops.map encOp))])), (nx2 + 25, some (.box [.d (.int .i64 0), .d (.int .i64 t.status), .ms (nx + 41) 5 0 (ys.length + 1)])), (nx + 41, some (.row 5 (ys ++ [V.d (encCall ⟨o.kind, key, o.arg, o.got, o.vals⟩)])))]) hGk (by (simp (maxSteps := 2000000) (disch := omega) [go_sem, -List.map_map]); omega) (Nat.le_refl _) (by (simp (maxSteps := 2000000) (disch := omega) [go_sem, -List.map_map, encCall]))) (Sub.le z_su) ⟨by omega, hall', nx + 47, nx + 41, _, by omega, by omega, hys', rfl, by (simp (maxSteps := 2000000) (disch := omega) [go_sem, -List.map_map])⟩ (by omega)
          · have hk' : okKey h.keys.length o = false := by simpa using hk
            rw [badOk (evOkB_key hlt (ho ▸ hk')), errno_f']
            have hcase : o.key < 0 ∨ ¬ o.key < 0 ∧ (h.keys.length : Int) ≤ o.key := by
              have : ¬ (0 ≤ o.key ∧ o.key < h.keys.length) := by simpa [okKey] using hk'
              omega
            rcases hcase with hc | ⟨hc1, hc2⟩
            · ((repeat refine WpM.seq ?_); have z_ex := (And.intro @hc True.intro); refine WpM.regPE [] [(1, _), (3, _), (4, _), (5, _), (6, _), (7, _), (8, _), (70, _)] (by (refine s_o [(8, _)] rfl rfl rfl z_su rfl q_fieldAddr z_fp z_ss ?_; refine s_o [(60, _)] rfl rfl rfl z_su rfl q_load z_fp z_ss ?_; refine s_o [(61, _)] rfl rfl rfl z_su rfl q_full z_fp z_ss ?_; refine s_o [(62, _)] rfl rfl rfl z_su rfl q_move z_fp z_ss ?_; refine s_wit ?_; intro z_g; (first | refine s_skip rfl z_g z_fp ?_ | (refine s_o [(8, _)] rfl z_g rfl z_su rfl q_fieldAddr z_fp z_ss ?_)); clear z_g; refine s_wit ?_; intro z_g; (first | refine s_skip rfl z_g z_fp ?_ | (refine s_o [(64, _)] rfl z_g rfl z_su rfl q_load z_fp z_ss ?_)); clear z_g; refine s_wit ?_; intro z_g; (first | refine s_skip rfl z_g z_fp ?_ | (refine s_o [(1, _)] rfl z_g rfl z_su rfl q_fieldAddr z_fp z_ss ?_)); clear z_g; refine s_wit ?_; intro z_g; (first | refine s_skip rfl z_g z_fp ?_ | (refine s_o [(66, _)] rfl z_g rfl z_su rfl q_load z_fp z_ss ?_)); clear z_g; refine s_wit ?_; intro z_g; (first | refine s_skip rfl z_g z_fp ?_ | (refine s_o [(67, _)] rfl z_g rfl z_su rfl q_full z_fp z_ss ?_)); clear z_g; refine s_wit ?_; intro z_g; (first | refine s_skip rfl z_g z_fp ?_ | (refine s_o [(65, _), (68, _)] rfl z_g rfl z_su rfl q_full z_fp z_ss ?_)); clear z_g; refine s_o [(63, _), (69, _)] rfl rfl rfl z_su rfl q_move z_fp z_ss ?_; exact wpS_nil ⟨rfl, rfl⟩)) z_su ?_; clear z_ex)
              ((repeat refine WpM.seq ?_); refine WpM.condT (by (simp (maxSteps := 2000000) (disch := omega) [go_sem, -List.map_map, hc])) ?_)
              ((repeat refine WpM.seq ?_); have z_ex := True.intro; refine WpM.regPE [] [(2, _)] (by (refine s_o [] rfl rfl rfl z_su rfl q_move z_fp z_ss ?_; exact wpS_nil ⟨rfl, rfl⟩)) z_su ?_; clear z_ex)
              refine WpM.ret ?_
              exact ⟨.inr rfl, Upd.done ⟨_, (by (simp (maxSteps := 2000000) (disch := omega) [go_sem, -List.map_map, resV, resVs, resV1])), rfl, fun m k _ hk => by have h9 := hH _ _ hk; have h8 := hold m k hk; have h7 := hGk m k h8; (simp (maxSteps := 2000000) (disch := omega) [go_sem, -List.map_map, h8])⟩⟩
            · ((repeat refine WpM.seq ?_); have z_ex := (And.intro @hbx (And.intro @histB'.eq_1 (And.intro @hc1 (And.intro @hc2 (And.intro @strs.eq_1 True.intro))))); refine WpM.regPE [] [(1, _), (3, _), (4, _), (5, _), (6, _), (7, _), (8, _), (70, _)] (by (refine s_o [(8, _)] rfl rfl rfl z_su rfl q_fieldAddr z_fp z_ss ?_; refine s_o [(60, _)] rfl rfl rfl z_su rfl q_load z_fp z_ss ?_; refine s_o [(61, _)] rfl rfl rfl z_su rfl q_full z_fp z_ss ?_; refine s_o [(62, _)] rfl rfl rfl z_su rfl q_move z_fp z_ss ?_; refine s_wit ?_; intro z_g; (first | refine s_skip rfl z_g z_fp ?_ | (refine s_o [(8, _)] rfl z_g rfl z_su rfl q_fieldAddr z_fp z_ss ?_)); clear z_g; refine s_wit ?_; intro z_g; (first | refine s_skip rfl z_g z_fp ?_ | (refine s_o [(64, _)] rfl z_g rfl z_su rfl q_load z_fp z_ss ?_)); clear z_g; refine s_wit ?_; intro z_g; (first | refine s_skip rfl z_g z_fp ?_ | (refine s_o [(1, _)] rfl z_g rfl z_su rfl q_fieldAddr z_fp z_ss ?_)); clear z_g; refine s_wit ?_; intro z_g; (first | refine s_skip rfl z_g z_fp ?_ | (refine s_o [(66, _)] rfl z_g rfl z_su rfl q_load z_fp z_ss ?_)); clear z_g; refine s_wit ?_; intro z_g; (first | refine s_skip rfl z_g z_fp ?_ | (refine s_o [(67, _)] rfl z_g rfl z_su rfl q_full z_fp z_ss ?_)); clear z_g; refine s_wit ?_; intro z_g; (first | refine s_skip rfl z_g z_fp ?_ | (refine s_o [(65, _), (68, _)] rfl z_g rfl z_su rfl q_full z_fp z_ss ?_)); clear z_g; refine s_o [(63, _), (69, _)] rfl rfl rfl z_su rfl q_move z_fp z_ss ?_; exact wpS_nil ⟨rfl, rfl⟩)) z_su ?_; clear z_ex)
              ((repeat refine WpM.seq ?_); refine WpM.condT (by (simp (maxSteps := 2000000) (disch := omega) [go_sem, -List.map_map, hc1, hc2])) ?_)
              ((repeat refine WpM.seq ?_); have z_ex := True.intro; refine WpM.regPE [] [(2, _)] (by (refine s_o [] rfl rfl rfl z_su rfl q_move z_fp z_ss ?_; exact wpS_nil ⟨rfl, rfl⟩)) z_su ?_; clear z_ex)
              refine WpM.ret ?_
              exact ⟨.inr rfl, Upd.done ⟨_, (by (simp (maxSteps := 2000000) (disch := omega) [go_sem, -List.map_map, resV, resVs, resV1])), rfl, fun m k _ hk => by have h9 := hH _ _ hk; have h8 := hold m k hk; have h7 := hGk m k h8; (simp (maxSteps := 2000000) (disch := omega) [go_sem, -List.map_map, h8])⟩⟩
        · ((repeat refine WpM.seq ?_); refine WpM.condF (by (simp (maxSteps := 2000000) (disch := omega) [go_sem, -List.map_map, hlt])) ?_)
          (refine WpM.exit ?_; (repeat (with_reducible (first | refine thenM_exit ?_ | refine blockM_eq ?_ | refine blockM_ne (by decide) ?_))))
          obtain rfl : j = t.ops.length := by omega
          rw [List.take_length] at hys
          obtain ⟨g1, g2⟩ := takeWhile_good (okKey h.keys.length) t.ops (fun i hi => hall i hi hi)
          have hev2 : ev.calls.map encCall = t.ops.map fun o => encCall (callOf' h.keys o) := by simp [hev, evOf, g1, List.map_map, Function.comp_def]
          have hevok : evOkB h.keys t = eventOk ev := by simp [evOkB, g2, hev]
          have hck := check45_one hh.1 htok h16n
          rw [← hev] at hck
          rw [show evs [ev] = .sl [.agg [.int .i64 0, .int .i64 t.status, .sl (ev.calls.map encCall)]] by rw [hev]; rfl] at hck
          refine Upd.wp (Upd.freezeIn (nx2 + 25) 2 (cs := [.d (.int .i64 0), .d (.int .i64 t.status), .ms nr 5 0 ys.length]) (xs := ys) (ev.calls.map encCall) (by (simp (maxSteps := 2000000) (disch := omega) [go_sem, -List.map_map])) (by rfl) (by (simp (maxSteps := 2000000) (disch := omega) [go_sem, -List.map_map])) (by rw [List.drop_zero, List.take_length, hys, hev2, List.map_map]; rfl) (by simp [hev2, hys]) (Upd.done ?_))
          refine WpM.less (le_cut (n0 := nx2) (n' := nx + 8) (l' := [(nx2 + 25, some (.box [.d (.int .i64 0), .d (.int .i64 t.status), .d (.sl (ev.calls.map encCall))]))]) hGk (by (simp (maxSteps := 2000000) (disch := omega) [go_sem, -List.map_map]); omega) (by (simp (maxSteps := 2000000) (disch := omega) [go_sem, -List.map_map])) (by (simp (maxSteps := 2000000) (disch := omega) [go_sem, -List.map_map]))) (frLe_frOf (l := [(1, .ptr n0 0), (3, .ptr L 0), (4, .d (.int .i64 i)), (6, .ptr (nx2 + 25) 0)]) (by (simp (maxSteps := 2000000) (disch := omega) [go_sem, -List.map_map]))) ?_
          rw [hevok] at hstep badOk
          cases hb : eventOk ev with
          | false =>
            rw [hb] at hck
            rw [badOk hb, errno_f']
            ((repeat refine WpM.seq ?_); have z_ex := True.intro; refine WpM.regPE [] [(1, _), (3, _), (4, _), (6, _), (94, _)] (by (refine s_o [(6, _)] rfl rfl rfl z_su rfl q_load z_fp z_ss ?_; refine s_o [(91, _)] rfl rfl rfl z_su rfl q_full z_fp z_ss ?_; refine s_pure (callOf_eq rfl rfl rfl (mlk_tmp z_lk mlk_nil)) (hck) rfl rfl z_ip z_fp ?_; refine s_o [(93, _)] rfl rfl rfl z_su rfl q_full z_fp z_ss ?_; exact wpS_nil ⟨rfl, rfl⟩)) z_su ?_; clear z_ex)
            ((repeat refine WpM.seq ?_); refine WpM.condT (by (simp (maxSteps := 2000000) (disch := omega) [go_sem, -List.map_map])) ?_)
            ((repeat refine WpM.seq ?_); have z_ex := True.intro; refine WpM.regPE [] [(2, _)] (by (refine s_o [] rfl rfl rfl z_su rfl q_move z_fp z_ss ?_; exact wpS_nil ⟨rfl, rfl⟩)) z_su ?_; clear z_ex)
            refine WpM.ret ?_
            exact ⟨.inr rfl, Upd.done ⟨_, (by (simp (maxSteps := 2000000) (disch := omega) [go_sem, -List.map_map, resV, resVs, resV1])), rfl, fun m k _ hk => by have h9 := hH _ _ hk; have h8 := hold m k hk; have h7 := hGk m k h8; (simp (maxSteps := 2000000) (disch := omega) [go_sem, -List.map_map, h8])⟩⟩
          | true =>
            rw [hb] at hck hstep
            ((repeat refine WpM.seq ?_); have z_ex := True.intro; refine WpM.regPE [] [(1, _), (3, _), (4, _), (6, _), (94, _)] (by (refine s_o [(6, _)] rfl rfl rfl z_su rfl q_load z_fp z_ss ?_; refine s_o [(91, _)] rfl rfl rfl z_su rfl q_full z_fp z_ss ?_; refine s_pure (callOf_eq rfl rfl rfl (mlk_tmp z_lk mlk_nil)) (hck) rfl rfl z_ip z_fp ?_; refine s_o [(93, _)] rfl rfl rfl z_su rfl q_full z_fp z_ss ?_; exact wpS_nil ⟨rfl, rfl⟩)) z_su ?_; clear z_ex)
            ((repeat refine WpM.seq ?_); refine WpM.condF (by (simp (maxSteps := 2000000) (disch := omega) [go_sem, -List.map_map])) ?_)
            refine WpM.skip ?_
            obtain ⟨_, _, hl16, hcok⟩ := eventOk_spec hb
            have hwf0 := checkSt_wf hst
            refine WpM.norm ?_
            intro nx5 G5 hnx5 hG5 hk5
            have hbE : G5 (nx2 + 25) = some (.box [.d (.int .i64 0), .d (.int .i64 t.status), .d (.sl (ev.calls.map encCall))]) := by rw [hG5]; (simp (maxSteps := 2000000) (disch := omega) [go_sem, -List.map_map])
            have hbx5 : G5 n0 = some (histB' h) := by rw [hG5]; (simp (maxSteps := 2000000) (disch := omega) [go_sem, -List.map_map, hbx])
            have hold5 : ∀ m k, H m = some k → G5 m = some k := fun m k hk => by
              have h8 := hold m k hk
              have h7 := hGk m k h8
              rw [hG5]
              (simp (maxSteps := 2000000) (disch := omega) [go_sem, -List.map_map, h8])
            have hLed5 : BookAt G5 L b O := hLed.same fun m k ho hk => by
              have := (hO m ho).2
              rw [hG5]
              (simp (maxSteps := 2000000) (disch := omega) [go_sem, -List.map_map, hk])
            have hnx5' : nx2 + 25 < nx5 := by have h3 : nx5 = nx + 11 := hnx5; omega
            have hOE : ¬ O (nx2 + 25) := fun h => by have := (hO _ h).2; omega
            have hO5 : ∀ m, O m → n0 < m ∧ m < nx5 := fun m hm => ⟨(hO m hm).1, by have := (hO m hm).2; omega⟩
            have hn5 : n0 < nx2 + 25 := by omega
            obtain ⟨ne, hne⟩ : ∃ ne, ne = nx2 + 25 := ⟨_, rfl⟩
            rw [← hne] at hbE hnx5' hOE hn5 ⊢
            have hst' : checkSt h (i + 1) = enters b ev.calls i := by rw [checkSt, hst]; exact hstep
            clear hG5 hk5 hnx5 hbx hold hLed hO hGk hck badOk hys hyl hall hev2 g1 g2 hne
            ((repeat refine WpM.seq ?_); have z_ex := True.intro; refine WpM.regPE [] [(1, _), (3, _), (4, _), (6, _), (9, _)] (by (refine s_o [] rfl rfl rfl z_su rfl q_move z_fp z_ss ?_; exact wpS_nil ⟨rfl, rfl⟩)) z_su ?_; clear z_ex)
            ((repeat refine WpM.seq ?_); refine WpM.block ?_)
            refine WpM.loop (fun (k : Nat) fr S => k ≤ ev.calls.length ∧ ∃ nx G b3 O, S = ⟨nx, [], G⟩ ∧ enters b (ev.calls.take k) i = some b3 ∧ BookAt G L b3 O ∧ (∀ m, O m → n0 < m ∧ m < nx) ∧ n0 < nx ∧ ne < nx ∧ ¬ O ne ∧ G ne = some (.box [.d (.int .i64 0), .d (.int .i64 t.status), .d (.sl (ev.calls.map encCall))]) ∧ G n0 = some (histB' h) ∧ (∀ m k, H m = some k → G m = some k) ∧ fr = frOf [(1, .ptr n0 0), (3, .ptr L 0), (4, .d (.int .i64 i)), (6, .ptr ne 0), (9, .d (.int .i64 k))]) (fun k => ev.calls.length - k) 0 (St.Le.refl _) (Sub.le z_su) ⟨by omega, _, G5, b, O, rfl, rfl, hLed5, fun m hm => ⟨(hO5 m hm).1, by have := (hO5 m hm).2; omega⟩, by omega, by omega, hOE, hbE, hbx5, hold5, rfl⟩ ?_
            clear hbE hbx5 hold5 hLed5 hnx5' hOE hO5
            rintro k fr S' ⟨hk, nx3, G, b3, O, rfl, hent, hLed, hO, hn3, hn3', hOE, hbE, hbx, hold, rfl⟩
            refine WpM.known fun hGk => ?_
            have hGk : ∀ m k, G m = some k → m < nx3 := hGk
            ((repeat refine WpM.seq ?_); have z_ex := (And.intro @hbE True.intro); refine WpM.regPE [] [(1, _), (3, _), (4, _), (6, _), (9, _), (99, _)] (by (refine s_o [(9, _)] rfl rfl rfl z_su rfl q_move z_fp z_ss ?_; refine s_o [(6, _)] rfl rfl rfl z_su rfl q_fieldAddr z_fp z_ss ?_; refine s_o [(96, _)] rfl rfl rfl z_su rfl q_load z_fp z_ss ?_; refine s_o [(97, _)] rfl rfl rfl z_su rfl q_full z_fp z_ss ?_; refine s_o [(95, _), (98, _)] rfl rfl rfl z_su rfl q_full z_fp z_ss ?_; exact wpS_nil ⟨rfl, rfl⟩)) z_su ?_; clear z_ex)
            by_cases hkt : k < ev.calls.length
            · ((repeat refine WpM.seq ?_); refine WpM.condT (by (simp (maxSteps := 2000000) (disch := omega) [go_sem, -List.map_map, hkt])) ?_)
              refine WpM.skip ?_
              ((repeat refine WpM.seq ?_); refine WpM.block ?_)
              obtain ⟨c, hc⟩ : ∃ c, c = ev.calls[k] := ⟨_, rfl⟩
              have hgetc : (ev.calls.map encCall)[k]? = some (encCall c) := by simp [hkt, hc]
              obtain ⟨hk1, hk8⟩ := callOk_kind (hcok c (hc ▸ List.getElem_mem _))
              have hnext := enters_take ev.calls b i k hkt b3 hent
              rw [← hc] at hnext
              have hwf3 := enters_wf _ hwf0 hent
              have hwn : 16 * i + (ev.calls.take k).length ≤ 1000000 := by simp; omega
              have hE := fun S h1 h2 => enter50 b3 _ hwn hwf3 c hk1 hk8 i (by omega) L O S h1 h2
              cases he : enterB b3 c i with
              | error e =>
                rw [he] at hE hnext
                have hcb : checkB h = false := checkB_bad hit hst (by rw [hstep]; exact enters_stop ev.calls b i (k + 1) hnext)
                rw [hcb, errno_f']
                clear hnext hent hwf3 hwf0
                ((repeat refine WpM.seq ?_); have z_ex := (And.intro @hbE (And.intro @hgetc (And.intro @hkt (And.intro @encCall.eq_1 True.intro)))); refine WpM.regP [] ?_; intro K hK; refine s_o [(3, _)] rfl rfl rfl z_su rfl q_move z_fp z_ss ?_; refine s_o [(6, _)] rfl rfl rfl z_su rfl q_fieldAddr z_fp z_ss ?_; refine s_o [(103, _)] rfl rfl rfl z_su rfl q_load z_fp z_ss ?_; refine s_o [(9, _)] rfl rfl rfl z_su rfl q_move z_fp z_ss ?_; refine s_o [(104, _), (105, _)] rfl rfl rfl z_su rfl q_full z_fp z_ss ?_; refine s_o [(106, _)] rfl rfl rfl z_su rfl q_load z_fp z_ss ?_; refine s_o [(4, _)] rfl rfl rfl z_su rfl q_move z_fp z_ss ?_; refine s_call (callOf_eq rfl rfl rfl (mlk_tmp z_lk (mlk_tmp z_lk (mlk_tmp z_lk mlk_nil)))) (hE _ hLed (fun m hm => by have := (hO m hm).2; show m < nx3 + _; omega)) rfl rfl z_ip ?_; rintro _ z_S ⟨hnx, old, rfl, hne2⟩; refine s_put z_fp ?_; refine s_o [(109, _)] rfl rfl rfl z_su rfl q_full z_fp z_ss ?_; refine s_endE [(1, _), (3, _), (4, _), (6, _), (9, _), (110, _)] hK z_su ?_; clear hK K; clear z_ex)
                ((repeat refine WpM.seq ?_); refine WpM.condT (by (simp (maxSteps := 2000000) (disch := omega) [go_sem, -List.map_map, hne2])) ?_)
                ((repeat refine WpM.seq ?_); have z_ex := True.intro; refine WpM.regPE [] [(2, _)] (by (refine s_o [] rfl rfl rfl z_su rfl q_move z_fp z_ss ?_; exact wpS_nil ⟨rfl, rfl⟩)) z_su ?_; clear z_ex)
                refine WpM.ret ?_
                exact ⟨.inr rfl, Upd.done ⟨_, (by (simp (maxSteps := 2000000) (disch := omega) [go_sem, -List.map_map, resV, resVs, resV1])), rfl, fun m k _ hk => old m k (fun h => by have := (hO m h).1; have h9 := hH m k hk; omega) (hold m k hk)⟩⟩
              | ok b4 =>
                rw [he] at hE hnext
                ((repeat refine WpM.seq ?_); have z_ex := (And.intro @hbE (And.intro @hgetc (And.intro @hkt (And.intro @encCall.eq_1 True.intro)))); refine WpM.regP [] ?_; intro K hK; refine s_o [(3, _)] rfl rfl rfl z_su rfl q_move z_fp z_ss ?_; refine s_o [(6, _)] rfl rfl rfl z_su rfl q_fieldAddr z_fp z_ss ?_; refine s_o [(103, _)] rfl rfl rfl z_su rfl q_load z_fp z_ss ?_; refine s_o [(9, _)] rfl rfl rfl z_su rfl q_move z_fp z_ss ?_; refine s_o [(104, _), (105, _)] rfl rfl rfl z_su rfl q_full z_fp z_ss ?_; refine s_o [(106, _)] rfl rfl rfl z_su rfl q_load z_fp z_ss ?_; refine s_o [(4, _)] rfl rfl rfl z_su rfl q_move z_fp z_ss ?_; refine s_call (callOf_eq rfl rfl rfl (mlk_tmp z_lk (mlk_tmp z_lk (mlk_tmp z_lk mlk_nil)))) (hE _ hLed (fun m hm => by have := (hO m hm).2; show m < nx3 + _; omega)) rfl rfl z_ip ?_; rintro _ z_S ⟨hnx, old, rfl, O4, hO4, hLed4⟩; refine s_put z_fp ?_; refine s_o [(109, _)] rfl rfl rfl z_su rfl q_full z_fp z_ss ?_; refine s_endE [(1, _), (3, _), (4, _), (6, _), (9, _), (110, _)] hK z_su ?_; clear hK K; clear z_ex)
                ((repeat refine WpM.seq ?_); refine WpM.condF (by (simp (maxSteps := 2000000) (disch := omega) [go_sem, -List.map_map])) ?_)
                refine WpM.skip ?_
                refine WpM.norm ?_
                intro nx4 G4 hnx4 hG4 hk4
                have h3 : nx4 = z_S.next + 1 := hnx4
                have h4 : nx3 ≤ z_S.next := Nat.le_trans (Nat.le_add_right _ _) hnx
                have hG4' : G4 = z_S.get := hG4
                have hO4' : ∀ m, O4 m → (O m ∨ nx3 ≤ m) ∧ m < nx4 := fun m hm => by
                  obtain ⟨h1, h2⟩ := hO4 m hm
                  exact ⟨h1.imp id (fun h => Nat.le_trans (Nat.le_add_right _ _) h), by omega⟩
                have old' : ∀ m k, ¬ O m → G m = some k → G4 m = some k := fun m k h1 h2 => by rw [hG4']; exact old m k h1 h2
                have hLed4' : BookAt G4 L b4 O4 := by rw [hG4']; exact hLed4
                clear hnx4 hG4 hG4' hO4 old hLed4 hE hwf3 hwf0 hk4 he
                ((repeat refine WpM.seq ?_); have z_ex := (And.intro @wrap_id True.intro); refine WpM.regPE [] [(1, _), (3, _), (4, _), (6, _), (9, _)] (by (refine s_o [(9, _)] rfl rfl rfl z_su rfl q_move z_fp z_ss ?_; refine s_o [(100, _)] rfl rfl rfl z_su rfl q_full z_fp z_ss ?_; refine s_o [(101, _)] rfl rfl rfl z_su rfl q_move z_fp z_ss ?_; exact wpS_nil ⟨rfl, rfl⟩)) z_su ?_; clear z_ex)
                refine round_end (x' := k + 1) (St.Le.refl _) (Sub.le z_su) ⟨by omega, _, G4, b4, O4, rfl, hnext, hLed4', fun m hm => ?_, ?_, ?_, fun h => ?_, old' ne _ hOE hbE, old' n0 _ (fun h => ?_) hbx, fun m q hq => old' m q (fun h => ?_) (hold m q hq), rfl⟩ (by omega)
                · obtain ⟨h1, h2⟩ := hO4' m hm
                  refine ⟨?_, by omega⟩
                  rcases h1 with h1 | h1
                  · exact (hO m h1).1
                  · omega
                · omega
                · omega
                · rcases (hO4' ne h).1 with h1 | h1
                  · exact hOE h1
                  · omega
                · have := (hO n0 h).1; omega
                · have := (hO m h).1; have h9 := hH m q hq; omega
            · ((repeat refine WpM.seq ?_); refine WpM.condF (by (simp (maxSteps := 2000000) (disch := omega) [go_sem, -List.map_map, hkt])) ?_)
              (refine WpM.exit ?_; (repeat (with_reducible (first | refine thenM_exit ?_ | refine blockM_eq ?_ | refine blockM_ne (by decide) ?_))))
              obtain rfl : k = ev.calls.length := by omega
              rw [List.take_length] at hent
              ((repeat refine WpM.seq ?_); have z_ex := (And.intro @wrap_id True.intro); refine WpM.regPE [] [(1, _), (3, _), (4, _)] (by (refine s_o [(4, _)] rfl rfl rfl z_su rfl q_move z_fp z_ss ?_; refine s_o [(27, _)] rfl rfl rfl z_su rfl q_full z_fp z_ss ?_; refine s_o [(28, _)] rfl rfl rfl z_su rfl q_move z_fp z_ss ?_; exact wpS_nil ⟨rfl, rfl⟩)) z_su ?_; clear z_ex)
              exact round_end (x' := i + 1) (St.Le.refl _) (Sub.le z_su) ⟨by omega, _, G, b3, O, rfl, by rw [hst']; exact hent, hLed, fun m hm => ⟨(hO m hm).1, by have := (hO m hm).2; omega⟩, by omega, hbx, hold, rfl⟩ (by omega)
  · ((repeat refine WpM.seq ?_); refine WpM.condF (by (simp (maxSteps := 2000000) (disch := omega) [go_sem, -List.map_map, hit])) ?_)
    (refine WpM.exit ?_; (repeat (with_reducible (first | refine thenM_exit ?_ | refine blockM_eq ?_ | refine blockM_ne (by decide) ?_))))
    obtain rfl : i = h.txns.length := by omega
    have hr : checkB h = true := by simp [checkB, ← hnm, hst]; omega
    rw [hr, errno_t']
    ((repeat refine WpM.seq ?_); have z_ex := True.intro; refine WpM.regPE [] [(2, _)] (by (refine s_o [] rfl rfl rfl z_su rfl q_move z_fp z_ss ?_; exact wpS_nil ⟨rfl, rfl⟩)) z_su ?_; clear z_ex)
    refine WpM.ret ?_
    exact ⟨.inr rfl, Upd.done ⟨_, (by (simp (maxSteps := 2000000) (disch := omega) [go_sem, -List.map_map, resV, resVs, resV1])), rfl, fun m k _ hk => by have h9 := hH _ _ hk; have h8 := hold m k hk; have h7 := hGk m k h8; (simp (maxSteps := 2000000) (disch := omega) [go_sem, -List.map_map, h8])⟩⟩
end Go.Proofs.Ytjjmedgibcffhaa
/- What a transaction wrote, both ways. -/
namespace Go.Proofs.Ytjjmedgibcffhaa
open Go.RowKit M
set_option linter.unusedSimpArgs false
set_option linter.unusedVariables false
def wrP (key : Int) (o : OpD) : Bool := decide (o.key = key) && decide (o.kind ≤ 4)
def wroteL (ops : List OpD) (key : Int) : List Int := (ops.filter (wrP key)).map (·.arg)
theorem wroteL_step {ops : List OpD} {key : Int} {j : Nat} (h : j < ops.length) : wroteL (ops.take (j + 1)) key = wroteL (ops.take j) key ++ if wrP key ops[j] then [ops[j].arg] else [] := by
  rw [List.take_succ_eq_append_getElem h, wroteL, List.filter_append, List.map_append]
  congr 1
  by_cases hp : wrP key ops[j] = true
  · simp [hp]
  · simp [hp]
theorem wroteL_len (ops : List OpD) (key : Int) : (wroteL ops key).length ≤ ops.length := by
  simpa [wroteL] using List.length_filter_le _ _
def intV (l : List Int) : List V := l.map fun x => .d (.int .i64 x)
set_option maxHeartbeats 8000000 in
theorem wrote58 (t : TxnD) (hb : TxnB t) (key : Int) : PureC Try.prog 58 [.d (encTxn t), .d (.int .i64 key)] (.d (ints (wroteL t.ops key))) := by
  refine PureC.of (n := 31) Try.func58 rfl rfl (by simp) (by simp only [argL, Nat.reduceAdd] <;> rfl) rfl ?_
  intro n0 H hH
  have hlen := hb.len
  ((repeat refine WpM.seq ?_); have z_ex := (And.intro @encTxn.eq_1 True.intro); refine WpM.regPE [] [(1, _), (2, _)] (by (refine s_o [(0, _)] rfl rfl rfl z_su rfl q_box z_fp z_ss ?_; refine s_o [] rfl rfl rfl z_su rfl q_move z_fp z_ss ?_; exact wpS_nil ⟨rfl, rfl⟩)) z_su ?_; clear z_ex)
  ((repeat refine WpM.seq ?_); have z_ex := True.intro; refine WpM.regPE [] [(1, _), (2, _), (5, _)] (by (refine s_o [] rfl rfl rfl z_su rfl q_move z_fp z_ss ?_; exact wpS_nil ⟨rfl, rfl⟩)) z_su ?_; clear z_ex)
  refine Upd.wp (Upd.ghost 5 1 (.inl (by (simp (maxSteps := 2000000) (disch := omega) [go_sem, -List.map_map]))) (Upd.done ?_))
  refine WpM.less (le_cut (n0 := n0) (n' := n0 + 4) (l' := [(n0, some (.box [.d (.int .i64 t.proc), .d (.int .i64 t.status), .d (.int .i64 t.frm), .d (.int .i64 t.to), .d (.sl (t.ops.map encOp))])), (n0 + 3, some (.row 1 []))]) hH (by (simp (maxSteps := 2000000) (disch := omega) [go_sem, -List.map_map])) (Nat.le_refl _) (by (simp (maxSteps := 2000000) (disch := omega) [go_sem, -List.map_map, encTxn]))) (frLe_frOf (l := [(1, .d (.int .i64 key)), (2, .ptr n0 0), (5, .ms (n0 + 3) 1 0 0)]) (by (simp (maxSteps := 2000000) (disch := omega) [go_sem, -List.map_map]))) ?_
  ((repeat refine WpM.seq ?_); have z_ex := True.intro; refine WpM.regPE [] [(1, _), (5, _), (9, _), (10, _), (11, _)] (by (refine s_o [(2, _)] rfl rfl rfl z_su rfl q_fieldAddr z_fp z_ss ?_; refine s_o [(8, _)] rfl rfl rfl z_su rfl q_load z_fp z_ss ?_; refine s_o [(9, _)] rfl rfl rfl z_su rfl q_full z_fp z_ss ?_; refine s_o [] rfl rfl rfl z_su rfl q_move z_fp z_ss ?_; exact wpS_nil ⟨rfl, rfl⟩)) z_su ?_; clear z_ex)
  ((repeat refine WpM.seq ?_); refine WpM.block ?_)
  refine WpM.loop (fun (j : Nat) fr S => j ≤ t.ops.length ∧ ∃ nx nr ys, n0 ≤ nr ∧ nr < nx ∧ ys = intV (wroteL (t.ops.take j) key) ∧ fr = frOf [(1, .d (.int .i64 key)), (5, .ms nr 1 0 ys.length), (9, .d (.sl (t.ops.map encOp))), (10, .d (.int .i64 t.ops.length)), (11, .d (.int .i64 j))] ∧ S = ⟨nx, [(nr, some (.row 1 ys))], H⟩) (fun j => t.ops.length - j) 0 (le_cut (n0 := n0) (n' := n0 + 8) (l' := [(n0 + 3, some (.row 1 []))]) hH (by (simp (maxSteps := 2000000) (disch := omega) [go_sem, -List.map_map])) (Nat.le_refl _) (by (simp (maxSteps := 2000000) (disch := omega) [go_sem, -List.map_map]))) (Sub.le z_su) ⟨by omega, n0 + 8, n0 + 3, [], by omega, by omega, rfl, rfl, rfl⟩ ?_
  rintro j fr S' ⟨hj, nx, nr, ys, hnr, hnx, hys, rfl, rfl⟩
  have hyl : ys.length ≤ j := by have := wroteL_len (t.ops.take j) key; rw [hys, intV, List.length_map]; simp at this; omega
  ((repeat refine WpM.seq ?_); have z_ex := True.intro; refine WpM.regPE [] [(1, _), (5, _), (9, _), (10, _), (11, _), (12, _)] (by (refine s_o [(10, _), (11, _)] rfl rfl rfl z_su rfl q_full z_fp z_ss ?_; exact wpS_nil ⟨rfl, rfl⟩)) z_su ?_; clear z_ex)
  by_cases hlt : j < t.ops.length
  · ((repeat refine WpM.seq ?_); refine WpM.condT (by (simp (maxSteps := 2000000) (disch := omega) [go_sem, -List.map_map, hlt])) ?_)
    refine WpM.skip ?_
    ((repeat refine WpM.seq ?_); refine WpM.block ?_)
    obtain ⟨o, ho⟩ : ∃ o, o = t.ops[j] := ⟨_, rfl⟩
    have hget : (t.ops.map encOp)[j]? = some (encOp o) := by simp [hlt, ho]
    have hstep := wroteL_step (key := key) hlt
    rw [← ho] at hstep
    ((repeat refine WpM.seq ?_); have z_ex := (And.intro @hget (And.intro @encOp.eq_1 True.intro)); refine WpM.regPE [] [(1, _), (5, _), (7, _), (9, _), (10, _), (11, _)] (by (refine s_o [(9, _), (11, _)] rfl rfl rfl z_su rfl q_full z_fp z_ss ?_; refine s_o [(13, _)] rfl rfl rfl z_su rfl q_load z_fp z_ss ?_; refine s_o [] rfl rfl rfl z_su rfl q_alloc z_fp z_ss ?_; refine s_o [(7, _), (14, _)] rfl rfl rfl z_su rfl q_store z_fp z_ss ?_; exact wpS_nil ⟨rfl, rfl⟩)) z_su ?_; clear z_ex)
    have no : wrP key o = false → ys = intV (wroteL (t.ops.take (j + 1)) key) := fun hp => by rw [hstep, hp, hys]; simp [intV]
    by_cases h1 : o.key = key
    · by_cases h2 : o.kind ≤ 4
      · have hp : wrP key o = true := by simp [wrP, h1, h2]
        have hys' : ys ++ [V.d (.int .i64 o.arg)] = intV (wroteL (t.ops.take (j + 1)) key) := by rw [hstep, hp, hys]; simp [intV]
        ((repeat refine WpM.seq ?_); have z_ex := (And.intro @h1 (And.intro @h2 True.intro)); refine WpM.regPE [] [(1, _), (5, _), (7, _), (9, _), (10, _), (11, _), (23, _)] (by (refine s_o [(7, _)] rfl rfl rfl z_su rfl q_fieldAddr z_fp z_ss ?_; refine s_o [(15, _)] rfl rfl rfl z_su rfl q_load z_fp z_ss ?_; refine s_o [(1, _)] rfl rfl rfl z_su rfl q_move z_fp z_ss ?_; refine s_o [(16, _), (17, _)] rfl rfl rfl z_su rfl q_full z_fp z_ss ?_; refine s_o [(18, _)] rfl rfl rfl z_su rfl q_move z_fp z_ss ?_; refine s_wit ?_; intro z_g; (first | refine s_skip rfl z_g z_fp ?_ | (refine s_o [(7, _)] rfl z_g rfl z_su rfl q_fieldAddr z_fp z_ss ?_)); clear z_g; refine s_wit ?_; intro z_g; (first | refine s_skip rfl z_g z_fp ?_ | (refine s_o [(20, _)] rfl z_g rfl z_su rfl q_load z_fp z_ss ?_)); clear z_g; refine s_wit ?_; intro z_g; (first | refine s_skip rfl z_g z_fp ?_ | (refine s_o [(21, _)] rfl z_g rfl z_su rfl q_full z_fp z_ss ?_)); clear z_g; refine s_o [(19, _), (22, _)] rfl rfl rfl z_su rfl q_move z_fp z_ss ?_; exact wpS_nil ⟨rfl, rfl⟩)) z_su ?_; clear z_ex)
        ((repeat refine WpM.seq ?_); refine WpM.condT (by (simp (maxSteps := 2000000) (disch := omega) [go_sem, -List.map_map, h1, h2])) ?_)
        ((repeat refine WpM.seq ?_); have z_ex := True.intro; refine WpM.regPE [] [(1, _), (5, _), (9, _), (10, _), (11, _)] (by (refine s_o [(5, _)] rfl rfl rfl z_su rfl q_move z_fp z_ss ?_; refine s_o [(7, _)] rfl rfl rfl z_su rfl q_fieldAddr z_fp z_ss ?_; refine s_o [(25, _)] rfl rfl rfl z_su rfl q_load z_fp z_ss ?_; refine s_o [(26, _)] rfl rfl rfl z_su rfl q_full z_fp z_ss ?_; refine s_o [(24, _), (27, _)] rfl rfl rfl z_su rfl q_full z_fp z_ss ?_; refine s_o [(28, _)] rfl rfl rfl z_su rfl q_move z_fp z_ss ?_; exact wpS_nil ⟨rfl, rfl⟩)) z_su ?_; clear z_ex)
        ((repeat refine WpM.seq ?_); have z_ex := (And.intro @wrap_id True.intro); refine WpM.regPE [] [(1, _), (5, _), (9, _), (10, _), (11, _)] (by (refine s_o [(11, _)] rfl rfl rfl z_su rfl q_full z_fp z_ss ?_; refine s_o [(29, _)] rfl rfl rfl z_su rfl q_move z_fp z_ss ?_; exact wpS_nil ⟨rfl, rfl⟩)) z_su ?_; clear z_ex)
        exact round_end (x' := j + 1) (le_cut (n0 := n0) (l' := [(nx + 18, some (.row 1 (ys ++ [V.d (.int .i64 o.arg)])))]) hH (by (simp (maxSteps := 2000000) (disch := omega) [go_sem, -List.map_map]); omega) (Nat.le_refl _) (by (simp (maxSteps := 2000000) (disch := omega) [go_sem, -List.map_map]))) (frLe_frOf (by (simp (maxSteps := 2000000) (disch := omega) [go_sem, -List.map_map, wrap_id]))) ⟨by omega, nx + 22, nx + 18, _, by omega, by omega, hys', rfl, by (simp (maxSteps := 2000000) (disch := omega) [go_sem, -List.map_map])⟩ (by omega)
      · have hp : wrP key o = false := by simp [wrP, h2]
        ((repeat refine WpM.seq ?_); have z_ex := (And.intro @h1 (And.intro @h2 True.intro)); refine WpM.regPE [] [(1, _), (5, _), (7, _), (9, _), (10, _), (11, _), (23, _)] (by (refine s_o [(7, _)] rfl rfl rfl z_su rfl q_fieldAddr z_fp z_ss ?_; refine s_o [(15, _)] rfl rfl rfl z_su rfl q_load z_fp z_ss ?_; refine s_o [(1, _)] rfl rfl rfl z_su rfl q_move z_fp z_ss ?_; refine s_o [(16, _), (17, _)] rfl rfl rfl z_su rfl q_full z_fp z_ss ?_; refine s_o [(18, _)] rfl rfl rfl z_su rfl q_move z_fp z_ss ?_; refine s_wit ?_; intro z_g; (first | refine s_skip rfl z_g z_fp ?_ | (refine s_o [(7, _)] rfl z_g rfl z_su rfl q_fieldAddr z_fp z_ss ?_)); clear z_g; refine s_wit ?_; intro z_g; (first | refine s_skip rfl z_g z_fp ?_ | (refine s_o [(20, _)] rfl z_g rfl z_su rfl q_load z_fp z_ss ?_)); clear z_g; refine s_wit ?_; intro z_g; (first | refine s_skip rfl z_g z_fp ?_ | (refine s_o [(21, _)] rfl z_g rfl z_su rfl q_full z_fp z_ss ?_)); clear z_g; refine s_o [(19, _), (22, _)] rfl rfl rfl z_su rfl q_move z_fp z_ss ?_; exact wpS_nil ⟨rfl, rfl⟩)) z_su ?_; clear z_ex)
        ((repeat refine WpM.seq ?_); refine WpM.condF (by (simp (maxSteps := 2000000) (disch := omega) [go_sem, -List.map_map, h1, h2])) ?_)
        refine WpM.skip ?_
        ((repeat refine WpM.seq ?_); have z_ex := (And.intro @wrap_id True.intro); refine WpM.regPE [] [(1, _), (5, _), (9, _), (10, _), (11, _)] (by (refine s_o [(11, _)] rfl rfl rfl z_su rfl q_full z_fp z_ss ?_; refine s_o [(29, _)] rfl rfl rfl z_su rfl q_move z_fp z_ss ?_; exact wpS_nil ⟨rfl, rfl⟩)) z_su ?_; clear z_ex)
        exact round_end (x' := j + 1) (le_cut (n0 := n0) (l' := [(nr, some (.row 1 ys))]) hH (by (simp (maxSteps := 2000000) (disch := omega) [go_sem, -List.map_map]); omega) (Nat.le_refl _) (by (simp (maxSteps := 2000000) (disch := omega) [go_sem, -List.map_map]))) (Sub.le z_su) ⟨by omega, _, nr, ys, hnr, by show nr < nx + _; omega, no hp, rfl, rfl⟩ (by omega)
    · have hp : wrP key o = false := by simp [wrP, h1]
      ((repeat refine WpM.seq ?_); have z_ex := (And.intro @h1 True.intro); refine WpM.regPE [] [(1, _), (5, _), (7, _), (9, _), (10, _), (11, _), (23, _)] (by (refine s_o [(7, _)] rfl rfl rfl z_su rfl q_fieldAddr z_fp z_ss ?_; refine s_o [(15, _)] rfl rfl rfl z_su rfl q_load z_fp z_ss ?_; refine s_o [(1, _)] rfl rfl rfl z_su rfl q_move z_fp z_ss ?_; refine s_o [(16, _), (17, _)] rfl rfl rfl z_su rfl q_full z_fp z_ss ?_; refine s_o [(18, _)] rfl rfl rfl z_su rfl q_move z_fp z_ss ?_; refine s_wit ?_; intro z_g; (first | refine s_skip rfl z_g z_fp ?_ | (refine s_o [(7, _)] rfl z_g rfl z_su rfl q_fieldAddr z_fp z_ss ?_)); clear z_g; refine s_wit ?_; intro z_g; (first | refine s_skip rfl z_g z_fp ?_ | (refine s_o [(20, _)] rfl z_g rfl z_su rfl q_load z_fp z_ss ?_)); clear z_g; refine s_wit ?_; intro z_g; (first | refine s_skip rfl z_g z_fp ?_ | (refine s_o [(21, _)] rfl z_g rfl z_su rfl q_full z_fp z_ss ?_)); clear z_g; refine s_o [(19, _), (22, _)] rfl rfl rfl z_su rfl q_move z_fp z_ss ?_; exact wpS_nil ⟨rfl, rfl⟩)) z_su ?_; clear z_ex)
      ((repeat refine WpM.seq ?_); refine WpM.condF (by (simp (maxSteps := 2000000) (disch := omega) [go_sem, -List.map_map, h1])) ?_)
      refine WpM.skip ?_
      ((repeat refine WpM.seq ?_); have z_ex := (And.intro @wrap_id True.intro); refine WpM.regPE [] [(1, _), (5, _), (9, _), (10, _), (11, _)] (by (refine s_o [(11, _)] rfl rfl rfl z_su rfl q_full z_fp z_ss ?_; refine s_o [(29, _)] rfl rfl rfl z_su rfl q_move z_fp z_ss ?_; exact wpS_nil ⟨rfl, rfl⟩)) z_su ?_; clear z_ex)
      exact round_end (x' := j + 1) (le_cut (n0 := n0) (l' := [(nr, some (.row 1 ys))]) hH (by (simp (maxSteps := 2000000) (disch := omega) [go_sem, -List.map_map]); omega) (Nat.le_refl _) (by (simp (maxSteps := 2000000) (disch := omega) [go_sem, -List.map_map]))) (Sub.le z_su) ⟨by omega, _, nr, ys, hnr, by show nr < nx + _; omega, no hp, rfl, rfl⟩ (by omega)
  · ((repeat refine WpM.seq ?_); refine WpM.condF (by (simp (maxSteps := 2000000) (disch := omega) [go_sem, -List.map_map, hlt])) ?_)
    (refine WpM.exit ?_; (repeat (with_reducible (first | refine thenM_exit ?_ | refine blockM_eq ?_ | refine blockM_ne (by decide) ?_))))
    obtain rfl : j = t.ops.length := by omega
    rw [List.take_length] at hys
    ((repeat refine WpM.seq ?_); have z_ex := True.intro; refine WpM.regPE [] [(4, _)] (by (refine s_o [(5, _)] rfl rfl rfl z_su rfl q_move z_fp z_ss ?_; refine s_o [(30, _)] rfl rfl rfl z_su rfl q_move z_fp z_ss ?_; exact wpS_nil ⟨rfl, rfl⟩)) z_su ?_; clear z_ex)
    refine WpM.ret ?_
    refine ⟨.inr rfl, Upd.freeze 4 (nm := nr) (sz := 1) (o := 0) (m := ys.length) (xs := ys) ((wroteL t.ops key).map (D.int .i64)) (by (simp (maxSteps := 2000000) (disch := omega) [go_sem, -List.map_map])) (by (simp (maxSteps := 2000000) (disch := omega) [go_sem, -List.map_map])) (by rw [List.drop_zero, List.take_length, hys, intV, List.map_map]; rfl) (by rw [hys, intV]; simp) (Upd.done ?_)⟩
    (simp (maxSteps := 2000000) (disch := omega) [go_sem, -List.map_map, resV, resVs, resV1, fset, ints])
    omega
set_option maxHeartbeats 8000000 in
theorem wrote59 (h : HistD) (hb : HistB h) (i : Nat) (hi : i < h.txns.length) (key : Int) : PureC Try.prog 59 [.d (encHist h), .d (.int .i64 i), .d (.int .i64 key)] (.d (ints (wroteL h.txns[i].ops key))) := by
  refine PureC.of (n := 45) Try.func59 rfl rfl (by simp) (by simp only [argL, Nat.reduceAdd] <;> rfl) rfl ?_
  intro n0 H hH
  obtain ⟨t, ht⟩ : ∃ t, t = h.txns[i] := ⟨_, rfl⟩
  have hgt : (h.txns.map encTxn)[i]? = some (encTxn t) := by simp [hi, ht]
  have hlen := (hb.txns t (ht ▸ List.getElem_mem _)).len
  rw [← ht]
  ((repeat refine WpM.seq ?_); have z_ex := (And.intro @encHist.eq_1 True.intro); refine WpM.regPE [] [(1, _), (2, _), (3, _)] (by (refine s_o [(0, _)] rfl rfl rfl z_su rfl q_box z_fp z_ss ?_; refine s_o [] rfl rfl rfl z_su rfl q_move z_fp z_ss ?_; exact wpS_nil ⟨rfl, rfl⟩)) z_su ?_; clear z_ex)
  ((repeat refine WpM.seq ?_); have z_ex := True.intro; refine WpM.regPE [] [(1, _), (2, _), (3, _), (7, _)] (by (refine s_o [] rfl rfl rfl z_su rfl q_move z_fp z_ss ?_; exact wpS_nil ⟨rfl, rfl⟩)) z_su ?_; clear z_ex)
  refine Upd.wp (Upd.ghost 7 1 (.inl (by (simp (maxSteps := 2000000) (disch := omega) [go_sem, -List.map_map]))) (Upd.done ?_))
  refine WpM.less (le_cut (n0 := n0) (n' := n0 + 4) (l' := [(n0, some (.box [.d (strs h.keys), .d (.sl (h.txns.map encTxn))])), (n0 + 3, some (.row 1 []))]) hH (by (simp (maxSteps := 2000000) (disch := omega) [go_sem, -List.map_map])) (Nat.le_refl _) (by (simp (maxSteps := 2000000) (disch := omega) [go_sem, -List.map_map, encHist, strs]))) (frLe_frOf (l := [(1, .d (.int .i64 i)), (2, .d (.int .i64 key)), (3, .ptr n0 0), (7, .ms (n0 + 3) 1 0 0)]) (by (simp (maxSteps := 2000000) (disch := omega) [go_sem, -List.map_map]))) ?_
  ((repeat refine WpM.seq ?_); have z_ex := True.intro; refine WpM.regPE [] [(1, _), (2, _), (3, _), (7, _), (8, _)] (by (refine s_o [] rfl rfl rfl z_su rfl q_move z_fp z_ss ?_; exact wpS_nil ⟨rfl, rfl⟩)) z_su ?_; clear z_ex)
  ((repeat refine WpM.seq ?_); refine WpM.block ?_)
  refine WpM.loop (fun (j : Nat) fr S => j ≤ t.ops.length ∧ ∃ nx nr ys, n0 < nr ∧ nr < nx ∧ ys = intV (wroteL (t.ops.take j) key) ∧ fr = frOf [(1, .d (.int .i64 i)), (2, .d (.int .i64 key)), (3, .ptr n0 0), (7, .ms nr 1 0 ys.length), (8, .d (.int .i64 j))] ∧ S = ⟨nx, [(n0, some (.box [.d (strs h.keys), .d (.sl (h.txns.map encTxn))])), (nr, some (.row 1 ys))], H⟩) (fun j => t.ops.length - j) 0 (St.Le.refl _) (Sub.le z_su) ⟨by omega, _, n0 + 3, [], by omega, by show n0 + 3 < n0 + _; omega, rfl, rfl, rfl⟩ ?_
  rintro j fr S' ⟨hj, nx, nr, ys, hnr, hnx, hys, rfl, rfl⟩
  have hyl : ys.length ≤ j := by have := wroteL_len (t.ops.take j) key; rw [hys, intV, List.length_map]; simp at this; omega
  ((repeat refine WpM.seq ?_); have z_ex := (And.intro @hgt (And.intro @hi (And.intro @encTxn.eq_1 True.intro))); refine WpM.regPE [] [(1, _), (2, _), (3, _), (7, _), (8, _), (18, _)] (by (refine s_o [(8, _)] rfl rfl rfl z_su rfl q_move z_fp z_ss ?_; refine s_o [(3, _)] rfl rfl rfl z_su rfl q_fieldAddr z_fp z_ss ?_; refine s_o [(11, _)] rfl rfl rfl z_su rfl q_load z_fp z_ss ?_; refine s_o [(1, _)] rfl rfl rfl z_su rfl q_move z_fp z_ss ?_; refine s_o [(12, _), (13, _)] rfl rfl rfl z_su rfl q_full z_fp z_ss ?_; refine s_o [(14, _)] rfl rfl rfl z_su rfl q_fieldAddr z_fp z_ss ?_; refine s_o [(15, _)] rfl rfl rfl z_su rfl q_load z_fp z_ss ?_; refine s_o [(16, _)] rfl rfl rfl z_su rfl q_full z_fp z_ss ?_; refine s_o [(10, _), (17, _)] rfl rfl rfl z_su rfl q_full z_fp z_ss ?_; exact wpS_nil ⟨rfl, rfl⟩)) z_su ?_; clear z_ex)
  by_cases hlt : j < t.ops.length
  · ((repeat refine WpM.seq ?_); refine WpM.condT (by (simp (maxSteps := 2000000) (disch := omega) [go_sem, -List.map_map, hlt])) ?_)
    refine WpM.skip ?_
    ((repeat refine WpM.seq ?_); refine WpM.block ?_)
    obtain ⟨o, ho⟩ : ∃ o, o = t.ops[j] := ⟨_, rfl⟩
    have hget : (t.ops.map encOp)[j]? = some (encOp o) := by simp [hlt, ho]
    have hstep := wroteL_step (key := key) hlt
    rw [← ho] at hstep
    have hwr := writes67 o.kind
    ((repeat refine WpM.seq ?_); have z_ex := (And.intro @hgt (And.intro @hi (And.intro @hget (And.intro @hlt (And.intro @encTxn.eq_1 (And.intro @encOp.eq_1 True.intro)))))); refine WpM.regPE [] [(1, _), (2, _), (3, _), (7, _), (8, _), (9, _)] (by (refine s_o [(3, _)] rfl rfl rfl z_su rfl q_fieldAddr z_fp z_ss ?_; refine s_o [(21, _)] rfl rfl rfl z_su rfl q_load z_fp z_ss ?_; refine s_o [(1, _)] rfl rfl rfl z_su rfl q_move z_fp z_ss ?_; refine s_o [(22, _), (23, _)] rfl rfl rfl z_su rfl q_full z_fp z_ss ?_; refine s_o [(24, _)] rfl rfl rfl z_su rfl q_fieldAddr z_fp z_ss ?_; refine s_o [(25, _)] rfl rfl rfl z_su rfl q_load z_fp z_ss ?_; refine s_o [(8, _)] rfl rfl rfl z_su rfl q_move z_fp z_ss ?_; refine s_o [(26, _), (27, _)] rfl rfl rfl z_su rfl q_full z_fp z_ss ?_; refine s_o [(28, _)] rfl rfl rfl z_su rfl q_load z_fp z_ss ?_; refine s_o [] rfl rfl rfl z_su rfl q_alloc z_fp z_ss ?_; refine s_o [(9, _), (29, _)] rfl rfl rfl z_su rfl q_store z_fp z_ss ?_; exact wpS_nil ⟨rfl, rfl⟩)) z_su ?_; clear z_ex)
    have no : wrP key o = false → ys = intV (wroteL (t.ops.take (j + 1)) key) := fun hp => by rw [hstep, hp, hys]; simp [intV]
    by_cases h1 : o.key = key
    · by_cases h2 : o.kind ≤ 4
      · have hp : wrP key o = true := by simp [wrP, h1, h2]
        have hys' : ys ++ [V.d (.int .i64 o.arg)] = intV (wroteL (t.ops.take (j + 1)) key) := by rw [hstep, hp, hys]; simp [intV]
        ((repeat refine WpM.seq ?_); have z_ex := (And.intro @h1 (And.intro @h2 True.intro)); refine WpM.regPE [] [(1, _), (2, _), (3, _), (7, _), (8, _), (9, _), (38, _)] (by (refine s_o [(9, _)] rfl rfl rfl z_su rfl q_fieldAddr z_fp z_ss ?_; refine s_o [(30, _)] rfl rfl rfl z_su rfl q_load z_fp z_ss ?_; refine s_o [(2, _)] rfl rfl rfl z_su rfl q_move z_fp z_ss ?_; refine s_o [(31, _), (32, _)] rfl rfl rfl z_su rfl q_full z_fp z_ss ?_; refine s_o [(33, _)] rfl rfl rfl z_su rfl q_move z_fp z_ss ?_; refine s_wit ?_; intro z_g; (first | refine s_skip rfl z_g z_fp ?_ | (refine s_o [(9, _)] rfl z_g rfl z_su rfl q_fieldAddr z_fp z_ss ?_)); clear z_g; refine s_wit ?_; intro z_g; (first | refine s_skip rfl z_g z_fp ?_ | (refine s_o [(35, _)] rfl z_g rfl z_su rfl q_load z_fp z_ss ?_)); clear z_g; refine s_wit ?_; intro z_g; (first | refine s_skip rfl z_g z_fp ?_ | (refine s_pure (callOf_eq rfl rfl rfl (mlk_tmp z_lk mlk_nil)) (hwr) rfl z_g z_ip z_fp ?_)); clear z_g; refine s_o [(34, _), (37, _)] rfl rfl rfl z_su rfl q_move z_fp z_ss ?_; exact wpS_nil ⟨rfl, rfl⟩)) z_su ?_; clear z_ex)
        ((repeat refine WpM.seq ?_); refine WpM.condT (by (simp (maxSteps := 2000000) (disch := omega) [go_sem, -List.map_map, h1, h2])) ?_)
        ((repeat refine WpM.seq ?_); have z_ex := True.intro; refine WpM.regPE [] [(1, _), (2, _), (3, _), (7, _), (8, _)] (by (refine s_o [(7, _)] rfl rfl rfl z_su rfl q_move z_fp z_ss ?_; refine s_o [(9, _)] rfl rfl rfl z_su rfl q_fieldAddr z_fp z_ss ?_; refine s_o [(40, _)] rfl rfl rfl z_su rfl q_load z_fp z_ss ?_; refine s_o [(41, _)] rfl rfl rfl z_su rfl q_full z_fp z_ss ?_; refine s_o [(39, _), (42, _)] rfl rfl rfl z_su rfl q_full z_fp z_ss ?_; refine s_o [(43, _)] rfl rfl rfl z_su rfl q_move z_fp z_ss ?_; exact wpS_nil ⟨rfl, rfl⟩)) z_su ?_; clear z_ex)
        ((repeat refine WpM.seq ?_); have z_ex := (And.intro @wrap_id True.intro); refine WpM.regPE [] [(1, _), (2, _), (3, _), (7, _), (8, _)] (by (refine s_o [(8, _)] rfl rfl rfl z_su rfl q_move z_fp z_ss ?_; refine s_o [(19, _)] rfl rfl rfl z_su rfl q_full z_fp z_ss ?_; refine s_o [(20, _)] rfl rfl rfl z_su rfl q_move z_fp z_ss ?_; exact wpS_nil ⟨rfl, rfl⟩)) z_su ?_; clear z_ex)
        exact round_end (x' := j + 1) (le_cut (n0 := n0) (l' := [(n0, some (.box [.d (strs h.keys), .d (.sl (h.txns.map encTxn))])), (nx + 32, some (.row 1 (ys ++ [V.d (.int .i64 o.arg)])))]) hH (by (simp (maxSteps := 2000000) (disch := omega) [go_sem, -List.map_map]); omega) (Nat.le_refl _) (by (simp (maxSteps := 2000000) (disch := omega) [go_sem, -List.map_map]))) (frLe_frOf (by (simp (maxSteps := 2000000) (disch := omega) [go_sem, -List.map_map, wrap_id]))) ⟨by omega, nx + 37, nx + 32, _, by omega, by omega, hys', rfl, by (simp (maxSteps := 2000000) (disch := omega) [go_sem, -List.map_map])⟩ (by omega)
      · have hp : wrP key o = false := by simp [wrP, h2]
        ((repeat refine WpM.seq ?_); have z_ex := (And.intro @h1 (And.intro @h2 True.intro)); refine WpM.regPE [] [(1, _), (2, _), (3, _), (7, _), (8, _), (9, _), (38, _)] (by (refine s_o [(9, _)] rfl rfl rfl z_su rfl q_fieldAddr z_fp z_ss ?_; refine s_o [(30, _)] rfl rfl rfl z_su rfl q_load z_fp z_ss ?_; refine s_o [(2, _)] rfl rfl rfl z_su rfl q_move z_fp z_ss ?_; refine s_o [(31, _), (32, _)] rfl rfl rfl z_su rfl q_full z_fp z_ss ?_; refine s_o [(33, _)] rfl rfl rfl z_su rfl q_move z_fp z_ss ?_; refine s_wit ?_; intro z_g; (first | refine s_skip rfl z_g z_fp ?_ | (refine s_o [(9, _)] rfl z_g rfl z_su rfl q_fieldAddr z_fp z_ss ?_)); clear z_g; refine s_wit ?_; intro z_g; (first | refine s_skip rfl z_g z_fp ?_ | (refine s_o [(35, _)] rfl z_g rfl z_su rfl q_load z_fp z_ss ?_)); clear z_g; refine s_wit ?_; intro z_g; (first | refine s_skip rfl z_g z_fp ?_ | (refine s_pure (callOf_eq rfl rfl rfl (mlk_tmp z_lk mlk_nil)) (hwr) rfl z_g z_ip z_fp ?_)); clear z_g; refine s_o [(34, _), (37, _)] rfl rfl rfl z_su rfl q_move z_fp z_ss ?_; exact wpS_nil ⟨rfl, rfl⟩)) z_su ?_; clear z_ex)
        ((repeat refine WpM.seq ?_); refine WpM.condF (by (simp (maxSteps := 2000000) (disch := omega) [go_sem, -List.map_map, h1, h2])) ?_)
        refine WpM.skip ?_
        ((repeat refine WpM.seq ?_); have z_ex := (And.intro @wrap_id True.intro); refine WpM.regPE [] [(1, _), (2, _), (3, _), (7, _), (8, _)] (by (refine s_o [(8, _)] rfl rfl rfl z_su rfl q_move z_fp z_ss ?_; refine s_o [(19, _)] rfl rfl rfl z_su rfl q_full z_fp z_ss ?_; refine s_o [(20, _)] rfl rfl rfl z_su rfl q_move z_fp z_ss ?_; exact wpS_nil ⟨rfl, rfl⟩)) z_su ?_; clear z_ex)
        exact round_end (x' := j + 1) (le_cut (n0 := n0) (l' := [(n0, some (.box [.d (strs h.keys), .d (.sl (h.txns.map encTxn))])), (nr, some (.row 1 ys))]) hH (by (simp (maxSteps := 2000000) (disch := omega) [go_sem, -List.map_map]); omega) (Nat.le_refl _) (by (simp (maxSteps := 2000000) (disch := omega) [go_sem, -List.map_map]))) (Sub.le z_su) ⟨by omega, _, nr, ys, hnr, by show nr < nx + _; omega, no hp, rfl, rfl⟩ (by omega)
    · have hp : wrP key o = false := by simp [wrP, h1]
      ((repeat refine WpM.seq ?_); have z_ex := (And.intro @h1 True.intro); refine WpM.regPE [] [(1, _), (2, _), (3, _), (7, _), (8, _), (9, _), (38, _)] (by (refine s_o [(9, _)] rfl rfl rfl z_su rfl q_fieldAddr z_fp z_ss ?_; refine s_o [(30, _)] rfl rfl rfl z_su rfl q_load z_fp z_ss ?_; refine s_o [(2, _)] rfl rfl rfl z_su rfl q_move z_fp z_ss ?_; refine s_o [(31, _), (32, _)] rfl rfl rfl z_su rfl q_full z_fp z_ss ?_; refine s_o [(33, _)] rfl rfl rfl z_su rfl q_move z_fp z_ss ?_; refine s_wit ?_; intro z_g; (first | refine s_skip rfl z_g z_fp ?_ | (refine s_o [(9, _)] rfl z_g rfl z_su rfl q_fieldAddr z_fp z_ss ?_)); clear z_g; refine s_wit ?_; intro z_g; (first | refine s_skip rfl z_g z_fp ?_ | (refine s_o [(35, _)] rfl z_g rfl z_su rfl q_load z_fp z_ss ?_)); clear z_g; refine s_wit ?_; intro z_g; (first | refine s_skip rfl z_g z_fp ?_ | (refine s_pure (callOf_eq rfl rfl rfl (mlk_tmp z_lk mlk_nil)) (hwr) rfl z_g z_ip z_fp ?_)); clear z_g; refine s_o [(34, _), (37, _)] rfl rfl rfl z_su rfl q_move z_fp z_ss ?_; exact wpS_nil ⟨rfl, rfl⟩)) z_su ?_; clear z_ex)
      ((repeat refine WpM.seq ?_); refine WpM.condF (by (simp (maxSteps := 2000000) (disch := omega) [go_sem, -List.map_map, h1])) ?_)
      refine WpM.skip ?_
      ((repeat refine WpM.seq ?_); have z_ex := (And.intro @wrap_id True.intro); refine WpM.regPE [] [(1, _), (2, _), (3, _), (7, _), (8, _)] (by (refine s_o [(8, _)] rfl rfl rfl z_su rfl q_move z_fp z_ss ?_; refine s_o [(19, _)] rfl rfl rfl z_su rfl q_full z_fp z_ss ?_; refine s_o [(20, _)] rfl rfl rfl z_su rfl q_move z_fp z_ss ?_; exact wpS_nil ⟨rfl, rfl⟩)) z_su ?_; clear z_ex)
      exact round_end (x' := j + 1) (le_cut (n0 := n0) (l' := [(n0, some (.box [.d (strs h.keys), .d (.sl (h.txns.map encTxn))])), (nr, some (.row 1 ys))]) hH (by (simp (maxSteps := 2000000) (disch := omega) [go_sem, -List.map_map]); omega) (Nat.le_refl _) (by (simp (maxSteps := 2000000) (disch := omega) [go_sem, -List.map_map]))) (Sub.le z_su) ⟨by omega, _, nr, ys, hnr, by show nr < nx + _; omega, no hp, rfl, rfl⟩ (by omega)
  · ((repeat refine WpM.seq ?_); refine WpM.condF (by (simp (maxSteps := 2000000) (disch := omega) [go_sem, -List.map_map, hlt])) ?_)
    (refine WpM.exit ?_; (repeat (with_reducible (first | refine thenM_exit ?_ | refine blockM_eq ?_ | refine blockM_ne (by decide) ?_))))
    obtain rfl : j = t.ops.length := by omega
    rw [List.take_length] at hys
    ((repeat refine WpM.seq ?_); have z_ex := True.intro; refine WpM.regPE [] [(6, _)] (by (refine s_o [(7, _)] rfl rfl rfl z_su rfl q_move z_fp z_ss ?_; refine s_o [(44, _)] rfl rfl rfl z_su rfl q_move z_fp z_ss ?_; exact wpS_nil ⟨rfl, rfl⟩)) z_su ?_; clear z_ex)
    refine WpM.ret ?_
    refine ⟨.inr rfl, Upd.freeze 6 (nm := nr) (sz := 1) (o := 0) (m := ys.length) (xs := ys) ((wroteL t.ops key).map (D.int .i64)) (by (simp (maxSteps := 2000000) (disch := omega) [go_sem, -List.map_map])) (by (simp (maxSteps := 2000000) (disch := omega) [go_sem, -List.map_map])) (by rw [List.drop_zero, List.take_length, hys, intV, List.map_map]; rfl) (by rw [hys, intV]; simp) (Upd.done ?_)⟩
    (simp (maxSteps := 2000000) (disch := omega) [go_sem, -List.map_map, resV, resVs, resV1, fset, ints])
    omega
end Go.Proofs.Ytjjmedgibcffhaa
/- Final, Type and Writers, both ways. -/
namespace Go.Proofs.Ytjjmedgibcffhaa
open Go.RowKit M
set_option linter.unusedSimpArgs false
set_option linter.unusedVariables false
noncomputable def finalF (h : HistD) (t key : Int) : List Int × Bool := open Classical in if 0 ≤ t ∧ t < h.txns.length ∧ checkB h = true then
    let l := match h.txns[t.toNat]? with | some x => wroteL x.ops key | none => []
    (l, decide (0 < l.length)) else ([], false)
noncomputable def finalV (h : HistD) (t key : Int) : V := .tup [.d (ints (finalF h t key).1), .d (.bool (finalF h t key).2)]
theorem finalV_bad {h : HistD} {t key : Int} (hb : ¬ (0 ≤ t ∧ t < h.txns.length ∧ checkB h = true)) : finalV h t key = .tup [.d (.sl []), .d (.bool false)] := by
  unfold finalV finalF
  rw [if_neg hb]
  rfl
theorem finalV_good {h : HistD} {t : Nat} {key : Int} (hi : t < h.txns.length) (hc : checkB h = true) : finalV h t key = .tup [.d (.sl ((wroteL h.txns[t].ops key).map (D.int .i64))), .d (.bool (decide (0 < (wroteL h.txns[t].ops key).length)))] := by
  unfold finalV finalF
  rw [if_pos ⟨by omega, by omega, hc⟩]
  simp [hi, ints]
theorem errno_ne {b : Bool} : errnoOf b = if b then 0 else 1 := rfl
set_option maxHeartbeats 8000000 in
theorem final36 (h : HistD) (hh : HistOk h) (t key : Int) : PureC Try.prog 36 [.d (encHist h), .d (.int .i64 t), .d (.int .i64 key)] (finalV h t key) := by
  intro S
  refine CallM.pure' (by rfl) (CallM.start (n := 34) Try.func36 rfl rfl (by simp) (by simp only [argL, Nat.reduceAdd] <;> rfl) ?_)
  intro hH
  obtain ⟨H, hHe⟩ : ∃ H, H = S.get := ⟨_, rfl⟩
  obtain ⟨n0, hne⟩ : ∃ n0, n0 = S.next := ⟨_, rfl⟩
  rw [← hHe, ← hne] at hH ⊢
  have hb := hh.b
  have hck := check32 h hh
  obtain ⟨ok, hok⟩ : ∃ ok, ok = checkB h := ⟨_, rfl⟩
  rw [← hok] at hck
  ((repeat refine WpM.seq ?_); have z_ex := (And.intro @encHist.eq_1 True.intro); refine WpM.regPE [] [(1, _), (2, _), (3, _)] (by (refine s_o [(0, _)] rfl rfl rfl z_su rfl q_box z_fp z_ss ?_; refine s_o [] rfl rfl rfl z_su rfl q_move z_fp z_ss ?_; refine s_o [] rfl rfl rfl z_su rfl q_move z_fp z_ss ?_; exact wpS_nil ⟨rfl, rfl⟩)) z_su ?_; clear z_ex)
  by_cases h1 : t < 0
  · rw [finalV_bad (by omega)]
    ((repeat refine WpM.seq ?_); have z_ex := (And.intro @h1 True.intro); refine WpM.regPE [] [(1, _), (2, _), (3, _), (22, _)] (by (refine s_o [(1, _)] rfl rfl rfl z_su rfl q_move z_fp z_ss ?_; refine s_o [(9, _)] rfl rfl rfl z_su rfl q_full z_fp z_ss ?_; refine s_o [(10, _)] rfl rfl rfl z_su rfl q_move z_fp z_ss ?_; refine s_wit ?_; intro z_g; (first | refine s_skip rfl z_g z_fp ?_ | (refine s_o [(1, _)] rfl z_g rfl z_su rfl q_move z_fp z_ss ?_)); clear z_g; refine s_wit ?_; intro z_g; (first | refine s_skip rfl z_g z_fp ?_ | (refine s_o [(3, _)] rfl z_g rfl z_su rfl q_fieldAddr z_fp z_ss ?_)); clear z_g; refine s_wit ?_; intro z_g; (first | refine s_skip rfl z_g z_fp ?_ | (refine s_o [(13, _)] rfl z_g rfl z_su rfl q_load z_fp z_ss ?_)); clear z_g; refine s_wit ?_; intro z_g; (first | refine s_skip rfl z_g z_fp ?_ | (refine s_o [(14, _)] rfl z_g rfl z_su rfl q_full z_fp z_ss ?_)); clear z_g; refine s_wit ?_; intro z_g; (first | refine s_skip rfl z_g z_fp ?_ | (refine s_o [(12, _), (15, _)] rfl z_g rfl z_su rfl q_full z_fp z_ss ?_)); clear z_g; refine s_o [(11, _), (16, _)] rfl rfl rfl z_su rfl q_move z_fp z_ss ?_; refine s_o [(17, _)] rfl rfl rfl z_su rfl q_move z_fp z_ss ?_; refine s_wit ?_; intro z_g; (first | refine s_skip rfl z_g z_fp ?_ | (refine s_o [(3, _)] rfl z_g rfl z_su rfl q_load z_fp z_ss ?_)); clear z_g; refine s_wit ?_; intro z_g; (first | refine s_skip rfl z_g z_fp ?_ | (refine s_pure (callOf_eq rfl rfl rfl (mlk_tmp z_lk mlk_nil)) (?missing) rfl z_g z_ip z_fp ?_)); clear z_g; refine s_wit ?_; intro z_g; (first | refine s_skip rfl z_g z_fp ?_ | (refine s_o [(20, _)] rfl z_g rfl z_su rfl q_full z_fp z_ss ?_)); clear z_g; refine s_o [(18, _), (21, _)] rfl rfl rfl z_su rfl q_move z_fp z_ss ?_; exact wpS_nil ⟨rfl, rfl⟩)) z_su ?_; clear z_ex)
    ((repeat refine WpM.seq ?_); refine WpM.condT (by (simp (maxSteps := 2000000) (disch := omega) [go_sem, -List.map_map, h1])) ?_)
    ((repeat refine WpM.seq ?_); have z_ex := True.intro; refine WpM.regPE [] [(6, _), (7, _)] (by (refine s_o [] rfl rfl rfl z_su rfl q_move z_fp z_ss ?_; refine s_o [] rfl rfl rfl z_su rfl q_move z_fp z_ss ?_; exact wpS_nil ⟨rfl, rfl⟩)) z_su ?_; clear z_ex)
    refine WpM.ret ?_
    refine ⟨.inr rfl, Upd.pureNil 6 (.inl (by (simp (maxSteps := 2000000) (disch := omega) [go_sem, -List.map_map]))) (Upd.done ⟨_, (by (simp (maxSteps := 2000000) (disch := omega) [go_sem, -List.map_map, resV, resVs, resV1, fset])), rfl, fun m k _ hk => ?_⟩)⟩
    have := hH _ _ hk
    (simp (maxSteps := 2000000) (disch := omega) [go_sem, -List.map_map, hk])
  · by_cases h2 : (h.txns.length : Int) ≤ t
    · rw [finalV_bad (by omega)]
      ((repeat refine WpM.seq ?_); have z_ex := (And.intro @h1 (And.intro @h2 True.intro)); refine WpM.regPE [] [(1, _), (2, _), (3, _), (22, _)] (by (refine s_o [(1, _)] rfl rfl rfl z_su rfl q_move z_fp z_ss ?_; refine s_o [(9, _)] rfl rfl rfl z_su rfl q_full z_fp z_ss ?_; refine s_o [(10, _)] rfl rfl rfl z_su rfl q_move z_fp z_ss ?_; refine s_wit ?_; intro z_g; (first | refine s_skip rfl z_g z_fp ?_ | (refine s_o [(1, _)] rfl z_g rfl z_su rfl q_move z_fp z_ss ?_)); clear z_g; refine s_wit ?_; intro z_g; (first | refine s_skip rfl z_g z_fp ?_ | (refine s_o [(3, _)] rfl z_g rfl z_su rfl q_fieldAddr z_fp z_ss ?_)); clear z_g; refine s_wit ?_; intro z_g; (first | refine s_skip rfl z_g z_fp ?_ | (refine s_o [(13, _)] rfl z_g rfl z_su rfl q_load z_fp z_ss ?_)); clear z_g; refine s_wit ?_; intro z_g; (first | refine s_skip rfl z_g z_fp ?_ | (refine s_o [(14, _)] rfl z_g rfl z_su rfl q_full z_fp z_ss ?_)); clear z_g; refine s_wit ?_; intro z_g; (first | refine s_skip rfl z_g z_fp ?_ | (refine s_o [(12, _), (15, _)] rfl z_g rfl z_su rfl q_full z_fp z_ss ?_)); clear z_g; refine s_o [(11, _), (16, _)] rfl rfl rfl z_su rfl q_move z_fp z_ss ?_; refine s_o [(17, _)] rfl rfl rfl z_su rfl q_move z_fp z_ss ?_; refine s_wit ?_; intro z_g; (first | refine s_skip rfl z_g z_fp ?_ | (refine s_o [(3, _)] rfl z_g rfl z_su rfl q_load z_fp z_ss ?_)); clear z_g; refine s_wit ?_; intro z_g; (first | refine s_skip rfl z_g z_fp ?_ | (refine s_pure (callOf_eq rfl rfl rfl (mlk_tmp z_lk mlk_nil)) (?missing) rfl z_g z_ip z_fp ?_)); clear z_g; refine s_wit ?_; intro z_g; (first | refine s_skip rfl z_g z_fp ?_ | (refine s_o [(20, _)] rfl z_g rfl z_su rfl q_full z_fp z_ss ?_)); clear z_g; refine s_o [(18, _), (21, _)] rfl rfl rfl z_su rfl q_move z_fp z_ss ?_; exact wpS_nil ⟨rfl, rfl⟩)) z_su ?_; clear z_ex)
      ((repeat refine WpM.seq ?_); refine WpM.condT (by (simp (maxSteps := 2000000) (disch := omega) [go_sem, -List.map_map, h2])) ?_)
      ((repeat refine WpM.seq ?_); have z_ex := True.intro; refine WpM.regPE [] [(6, _), (7, _)] (by (refine s_o [] rfl rfl rfl z_su rfl q_move z_fp z_ss ?_; refine s_o [] rfl rfl rfl z_su rfl q_move z_fp z_ss ?_; exact wpS_nil ⟨rfl, rfl⟩)) z_su ?_; clear z_ex)
      refine WpM.ret ?_
      refine ⟨.inr rfl, Upd.pureNil 6 (.inl (by (simp (maxSteps := 2000000) (disch := omega) [go_sem, -List.map_map]))) (Upd.done ⟨_, (by (simp (maxSteps := 2000000) (disch := omega) [go_sem, -List.map_map, resV, resVs, resV1, fset])), rfl, fun m k _ hk => ?_⟩)⟩
      have := hH _ _ hk
      (simp (maxSteps := 2000000) (disch := omega) [go_sem, -List.map_map, hk])
    · cases ok with
      | false =>
        rw [finalV_bad (by rw [← hok]; simp)]
        rw [errno_f] at hck
        ((repeat refine WpM.seq ?_); have z_ex := (And.intro @h1 (And.intro @h2 True.intro)); refine WpM.regPE [] [(1, _), (2, _), (3, _), (22, _)] (by (refine s_o [(1, _)] rfl rfl rfl z_su rfl q_move z_fp z_ss ?_; refine s_o [(9, _)] rfl rfl rfl z_su rfl q_full z_fp z_ss ?_; refine s_o [(10, _)] rfl rfl rfl z_su rfl q_move z_fp z_ss ?_; refine s_wit ?_; intro z_g; (first | refine s_skip rfl z_g z_fp ?_ | (refine s_o [(1, _)] rfl z_g rfl z_su rfl q_move z_fp z_ss ?_)); clear z_g; refine s_wit ?_; intro z_g; (first | refine s_skip rfl z_g z_fp ?_ | (refine s_o [(3, _)] rfl z_g rfl z_su rfl q_fieldAddr z_fp z_ss ?_)); clear z_g; refine s_wit ?_; intro z_g; (first | refine s_skip rfl z_g z_fp ?_ | (refine s_o [(13, _)] rfl z_g rfl z_su rfl q_load z_fp z_ss ?_)); clear z_g; refine s_wit ?_; intro z_g; (first | refine s_skip rfl z_g z_fp ?_ | (refine s_o [(14, _)] rfl z_g rfl z_su rfl q_full z_fp z_ss ?_)); clear z_g; refine s_wit ?_; intro z_g; (first | refine s_skip rfl z_g z_fp ?_ | (refine s_o [(12, _), (15, _)] rfl z_g rfl z_su rfl q_full z_fp z_ss ?_)); clear z_g; refine s_o [(11, _), (16, _)] rfl rfl rfl z_su rfl q_move z_fp z_ss ?_; refine s_o [(17, _)] rfl rfl rfl z_su rfl q_move z_fp z_ss ?_; refine s_wit ?_; intro z_g; (first | refine s_skip rfl z_g z_fp ?_ | (refine s_o [(3, _)] rfl z_g rfl z_su rfl q_load z_fp z_ss ?_)); clear z_g; refine s_wit ?_; intro z_g; (first | refine s_skip rfl z_g z_fp ?_ | (refine s_pure (callOf_eq rfl rfl rfl (mlk_tmp z_lk mlk_nil)) (hck) rfl z_g z_ip z_fp ?_)); clear z_g; refine s_wit ?_; intro z_g; (first | refine s_skip rfl z_g z_fp ?_ | (refine s_o [(20, _)] rfl z_g rfl z_su rfl q_full z_fp z_ss ?_)); clear z_g; refine s_o [(18, _), (21, _)] rfl rfl rfl z_su rfl q_move z_fp z_ss ?_; exact wpS_nil ⟨rfl, rfl⟩)) z_su ?_; clear z_ex)
        ((repeat refine WpM.seq ?_); refine WpM.condT (by (simp (maxSteps := 2000000) (disch := omega) [go_sem, -List.map_map])) ?_)
        ((repeat refine WpM.seq ?_); have z_ex := True.intro; refine WpM.regPE [] [(6, _), (7, _)] (by (refine s_o [] rfl rfl rfl z_su rfl q_move z_fp z_ss ?_; refine s_o [] rfl rfl rfl z_su rfl q_move z_fp z_ss ?_; exact wpS_nil ⟨rfl, rfl⟩)) z_su ?_; clear z_ex)
        refine WpM.ret ?_
        refine ⟨.inr rfl, Upd.pureNil 6 (.inl (by (simp (maxSteps := 2000000) (disch := omega) [go_sem, -List.map_map]))) (Upd.done ⟨_, (by (simp (maxSteps := 2000000) (disch := omega) [go_sem, -List.map_map, resV, resVs, resV1, fset])), rfl, fun m k _ hk => ?_⟩)⟩
        have := hH _ _ hk
        (simp (maxSteps := 2000000) (disch := omega) [go_sem, -List.map_map, hk])
      | true =>
        rw [errno_t] at hck
        obtain ⟨i, rfl⟩ : ∃ i : Nat, t = i := ⟨t.toNat, by omega⟩
        have hi : i < h.txns.length := by omega
        rw [finalV_good hi hok.symm]
        obtain ⟨x, hx⟩ : ∃ x, x = h.txns[i] := ⟨_, rfl⟩
        have hgx : (h.txns.map encTxn)[i]? = some (encTxn x) := by simp [hi, hx]
        have hwr := wrote58 x (hb.txns x (hx ▸ List.getElem_mem _)) key
        rw [← hx]
        obtain ⟨wl, hwl⟩ : ∃ wl, wl = wroteL x.ops key := ⟨_, rfl⟩
        rw [← hwl] at hwr ⊢
        ((repeat refine WpM.seq ?_); have z_ex := (And.intro @h1 (And.intro @h2 True.intro)); refine WpM.regPE [] [(1, _), (2, _), (3, _), (22, _)] (by (refine s_o [(1, _)] rfl rfl rfl z_su rfl q_move z_fp z_ss ?_; refine s_o [(9, _)] rfl rfl rfl z_su rfl q_full z_fp z_ss ?_; refine s_o [(10, _)] rfl rfl rfl z_su rfl q_move z_fp z_ss ?_; refine s_wit ?_; intro z_g; (first | refine s_skip rfl z_g z_fp ?_ | (refine s_o [(1, _)] rfl z_g rfl z_su rfl q_move z_fp z_ss ?_)); clear z_g; refine s_wit ?_; intro z_g; (first | refine s_skip rfl z_g z_fp ?_ | (refine s_o [(3, _)] rfl z_g rfl z_su rfl q_fieldAddr z_fp z_ss ?_)); clear z_g; refine s_wit ?_; intro z_g; (first | refine s_skip rfl z_g z_fp ?_ | (refine s_o [(13, _)] rfl z_g rfl z_su rfl q_load z_fp z_ss ?_)); clear z_g; refine s_wit ?_; intro z_g; (first | refine s_skip rfl z_g z_fp ?_ | (refine s_o [(14, _)] rfl z_g rfl z_su rfl q_full z_fp z_ss ?_)); clear z_g; refine s_wit ?_; intro z_g; (first | refine s_skip rfl z_g z_fp ?_ | (refine s_o [(12, _), (15, _)] rfl z_g rfl z_su rfl q_full z_fp z_ss ?_)); clear z_g; refine s_o [(11, _), (16, _)] rfl rfl rfl z_su rfl q_move z_fp z_ss ?_; refine s_o [(17, _)] rfl rfl rfl z_su rfl q_move z_fp z_ss ?_; refine s_wit ?_; intro z_g; (first | refine s_skip rfl z_g z_fp ?_ | (refine s_o [(3, _)] rfl z_g rfl z_su rfl q_load z_fp z_ss ?_)); clear z_g; refine s_wit ?_; intro z_g; (first | refine s_skip rfl z_g z_fp ?_ | (refine s_pure (callOf_eq rfl rfl rfl (mlk_tmp z_lk mlk_nil)) (hck) rfl z_g z_ip z_fp ?_)); clear z_g; refine s_wit ?_; intro z_g; (first | refine s_skip rfl z_g z_fp ?_ | (refine s_o [(20, _)] rfl z_g rfl z_su rfl q_full z_fp z_ss ?_)); clear z_g; refine s_o [(18, _), (21, _)] rfl rfl rfl z_su rfl q_move z_fp z_ss ?_; exact wpS_nil ⟨rfl, rfl⟩)) z_su ?_; clear z_ex)
        ((repeat refine WpM.seq ?_); refine WpM.condF (by (simp (maxSteps := 2000000) (disch := omega) [go_sem, -List.map_map])) ?_)
        refine WpM.skip ?_
        ((repeat refine WpM.seq ?_); have z_ex := (And.intro @hgx (And.intro @hi (And.intro @encTxn.eq_1 True.intro))); refine WpM.regPE [] [(8, _)] (by (refine s_o [(3, _)] rfl rfl rfl z_su rfl q_fieldAddr z_fp z_ss ?_; refine s_o [(23, _)] rfl rfl rfl z_su rfl q_load z_fp z_ss ?_; refine s_o [(1, _)] rfl rfl rfl z_su rfl q_move z_fp z_ss ?_; refine s_o [(24, _), (25, _)] rfl rfl rfl z_su rfl q_full z_fp z_ss ?_; refine s_o [(26, _)] rfl rfl rfl z_su rfl q_load z_fp z_ss ?_; refine s_o [(2, _)] rfl rfl rfl z_su rfl q_move z_fp z_ss ?_; refine s_pure (callOf_eq rfl rfl rfl (mlk_tmp z_lk (mlk_tmp z_lk mlk_nil))) (hwr) rfl rfl z_ip z_fp ?_; refine s_o [(29, _)] rfl rfl rfl z_su rfl q_move z_fp z_ss ?_; exact wpS_nil ⟨rfl, rfl⟩)) z_su ?_; clear z_ex)
        ((repeat refine WpM.seq ?_); have z_ex := (And.intro @ints.eq_1 True.intro); refine WpM.regPE [] [(6, _), (7, _)] (by (refine s_o [(8, _)] rfl rfl rfl z_su rfl q_move z_fp z_ss ?_; refine s_o [(8, _)] rfl rfl rfl z_su rfl q_move z_fp z_ss ?_; refine s_o [(31, _)] rfl rfl rfl z_su rfl q_full z_fp z_ss ?_; refine s_o [(32, _)] rfl rfl rfl z_su rfl q_full z_fp z_ss ?_; refine s_o [(30, _)] rfl rfl rfl z_su rfl q_move z_fp z_ss ?_; refine s_o [(33, _)] rfl rfl rfl z_su rfl q_move z_fp z_ss ?_; exact wpS_nil ⟨rfl, rfl⟩)) z_su ?_; clear z_ex)
        refine WpM.ret ?_
        exact ⟨.inr rfl, Upd.done ⟨_, (by (simp (maxSteps := 2000000) (disch := omega) [go_sem, -List.map_map, resV, resVs, resV1, ints])), rfl, fun m k _ hk => by have := hH _ _ hk; (simp (maxSteps := 2000000) (disch := omega) [go_sem, -List.map_map, hk])⟩⟩
set_option maxHeartbeats 8000000 in
theorem final37 (h : HistD) (hh : HistOk h) (t key : Int) : PureC Try.prog 37 [.d (encHist h), .d (.int .i64 t), .d (.int .i64 key)] (finalV h t key) := by
  intro S
  refine CallM.pure' (by rfl) (CallM.start (n := 31) Try.func37 rfl rfl (by simp) (by simp only [argL, Nat.reduceAdd] <;> rfl) ?_)
  intro hH
  obtain ⟨H, hHe⟩ : ∃ H, H = S.get := ⟨_, rfl⟩
  obtain ⟨n0, hne⟩ : ∃ n0, n0 = S.next := ⟨_, rfl⟩
  rw [← hHe, ← hne] at hH ⊢
  have hb := hh.b
  have hck := check33 h hh
  obtain ⟨ok, hok⟩ : ∃ ok, ok = checkB h := ⟨_, rfl⟩
  rw [← hok] at hck
  ((repeat refine WpM.seq ?_); have z_ex := (And.intro @encHist.eq_1 True.intro); refine WpM.regPE [] [(1, _), (2, _), (3, _)] (by (refine s_o [(0, _)] rfl rfl rfl z_su rfl q_box z_fp z_ss ?_; refine s_o [] rfl rfl rfl z_su rfl q_move z_fp z_ss ?_; refine s_o [] rfl rfl rfl z_su rfl q_move z_fp z_ss ?_; exact wpS_nil ⟨rfl, rfl⟩)) z_su ?_; clear z_ex)
  cases ok with
  | false =>
    rw [finalV_bad (by rw [← hok]; simp)]
    rw [errno_f] at hck
    ((repeat refine WpM.seq ?_); have z_ex := True.intro; refine WpM.regPE [] [(1, _), (2, _), (3, _), (22, _)] (by (refine s_o [(3, _)] rfl rfl rfl z_su rfl q_load z_fp z_ss ?_; refine s_pure (callOf_eq rfl rfl rfl (mlk_tmp z_lk mlk_nil)) (hck) rfl rfl z_ip z_fp ?_; refine s_o [(10, _)] rfl rfl rfl z_su rfl q_full z_fp z_ss ?_; refine s_o [(11, _)] rfl rfl rfl z_su rfl q_move z_fp z_ss ?_; refine s_wit ?_; intro z_g; (first | refine s_skip rfl z_g z_fp ?_ | (refine s_o [(1, _)] rfl z_g rfl z_su rfl q_move z_fp z_ss ?_)); clear z_g; refine s_wit ?_; intro z_g; (first | refine s_skip rfl z_g z_fp ?_ | (refine s_o [(13, _)] rfl z_g rfl z_su rfl q_full z_fp z_ss ?_)); clear z_g; refine s_o [(12, _), (14, _)] rfl rfl rfl z_su rfl q_move z_fp z_ss ?_; refine s_o [(15, _)] rfl rfl rfl z_su rfl q_move z_fp z_ss ?_; refine s_wit ?_; intro z_g; (first | refine s_skip rfl z_g z_fp ?_ | (refine s_o [(1, _)] rfl z_g rfl z_su rfl q_move z_fp z_ss ?_)); clear z_g; refine s_wit ?_; intro z_g; (first | refine s_skip rfl z_g z_fp ?_ | (refine s_o [(3, _)] rfl z_g rfl z_su rfl q_fieldAddr z_fp z_ss ?_)); clear z_g; refine s_wit ?_; intro z_g; (first | refine s_skip rfl z_g z_fp ?_ | (refine s_o [(18, _)] rfl z_g rfl z_su rfl q_load z_fp z_ss ?_)); clear z_g; refine s_wit ?_; intro z_g; (first | refine s_skip rfl z_g z_fp ?_ | (refine s_o [(19, _)] rfl z_g rfl z_su rfl q_full z_fp z_ss ?_)); clear z_g; refine s_wit ?_; intro z_g; (first | refine s_skip rfl z_g z_fp ?_ | (refine s_o [(17, _), (20, _)] rfl z_g rfl z_su rfl q_full z_fp z_ss ?_)); clear z_g; refine s_o [(16, _), (21, _)] rfl rfl rfl z_su rfl q_move z_fp z_ss ?_; exact wpS_nil ⟨rfl, rfl⟩)) z_su ?_; clear z_ex)
    ((repeat refine WpM.seq ?_); refine WpM.condT (by (simp (maxSteps := 2000000) (disch := omega) [go_sem, -List.map_map])) ?_)
    ((repeat refine WpM.seq ?_); have z_ex := True.intro; refine WpM.regPE [] [(6, _), (7, _)] (by (refine s_o [] rfl rfl rfl z_su rfl q_move z_fp z_ss ?_; refine s_o [] rfl rfl rfl z_su rfl q_move z_fp z_ss ?_; exact wpS_nil ⟨rfl, rfl⟩)) z_su ?_; clear z_ex)
    refine WpM.ret ?_
    refine ⟨.inr rfl, Upd.pureNil 6 (.inl (by (simp (maxSteps := 2000000) (disch := omega) [go_sem, -List.map_map]))) (Upd.done ⟨_, (by (simp (maxSteps := 2000000) (disch := omega) [go_sem, -List.map_map, resV, resVs, resV1, fset])), rfl, fun m k _ hk => ?_⟩)⟩
    have := hH _ _ hk
    (simp (maxSteps := 2000000) (disch := omega) [go_sem, -List.map_map, hk])
  | true =>
    rw [errno_t] at hck
    by_cases h1 : t < 0
    · rw [finalV_bad (by omega)]
      ((repeat refine WpM.seq ?_); have z_ex := (And.intro @h1 True.intro); refine WpM.regPE [] [(1, _), (2, _), (3, _), (22, _)] (by (refine s_o [(3, _)] rfl rfl rfl z_su rfl q_load z_fp z_ss ?_; refine s_pure (callOf_eq rfl rfl rfl (mlk_tmp z_lk mlk_nil)) (hck) rfl rfl z_ip z_fp ?_; refine s_o [(10, _)] rfl rfl rfl z_su rfl q_full z_fp z_ss ?_; refine s_o [(11, _)] rfl rfl rfl z_su rfl q_move z_fp z_ss ?_; refine s_wit ?_; intro z_g; (first | refine s_skip rfl z_g z_fp ?_ | (refine s_o [(1, _)] rfl z_g rfl z_su rfl q_move z_fp z_ss ?_)); clear z_g; refine s_wit ?_; intro z_g; (first | refine s_skip rfl z_g z_fp ?_ | (refine s_o [(13, _)] rfl z_g rfl z_su rfl q_full z_fp z_ss ?_)); clear z_g; refine s_o [(12, _), (14, _)] rfl rfl rfl z_su rfl q_move z_fp z_ss ?_; refine s_o [(15, _)] rfl rfl rfl z_su rfl q_move z_fp z_ss ?_; refine s_wit ?_; intro z_g; (first | refine s_skip rfl z_g z_fp ?_ | (refine s_o [(1, _)] rfl z_g rfl z_su rfl q_move z_fp z_ss ?_)); clear z_g; refine s_wit ?_; intro z_g; (first | refine s_skip rfl z_g z_fp ?_ | (refine s_o [(3, _)] rfl z_g rfl z_su rfl q_fieldAddr z_fp z_ss ?_)); clear z_g; refine s_wit ?_; intro z_g; (first | refine s_skip rfl z_g z_fp ?_ | (refine s_o [(18, _)] rfl z_g rfl z_su rfl q_load z_fp z_ss ?_)); clear z_g; refine s_wit ?_; intro z_g; (first | refine s_skip rfl z_g z_fp ?_ | (refine s_o [(19, _)] rfl z_g rfl z_su rfl q_full z_fp z_ss ?_)); clear z_g; refine s_wit ?_; intro z_g; (first | refine s_skip rfl z_g z_fp ?_ | (refine s_o [(17, _), (20, _)] rfl z_g rfl z_su rfl q_full z_fp z_ss ?_)); clear z_g; refine s_o [(16, _), (21, _)] rfl rfl rfl z_su rfl q_move z_fp z_ss ?_; exact wpS_nil ⟨rfl, rfl⟩)) z_su ?_; clear z_ex)
      ((repeat refine WpM.seq ?_); refine WpM.condT (by (simp (maxSteps := 2000000) (disch := omega) [go_sem, -List.map_map, h1])) ?_)
      ((repeat refine WpM.seq ?_); have z_ex := True.intro; refine WpM.regPE [] [(6, _), (7, _)] (by (refine s_o [] rfl rfl rfl z_su rfl q_move z_fp z_ss ?_; refine s_o [] rfl rfl rfl z_su rfl q_move z_fp z_ss ?_; exact wpS_nil ⟨rfl, rfl⟩)) z_su ?_; clear z_ex)
      refine WpM.ret ?_
      refine ⟨.inr rfl, Upd.pureNil 6 (.inl (by (simp (maxSteps := 2000000) (disch := omega) [go_sem, -List.map_map]))) (Upd.done ⟨_, (by (simp (maxSteps := 2000000) (disch := omega) [go_sem, -List.map_map, resV, resVs, resV1, fset])), rfl, fun m k _ hk => ?_⟩)⟩
      have := hH _ _ hk
      (simp (maxSteps := 2000000) (disch := omega) [go_sem, -List.map_map, hk])
    · by_cases h2 : (h.txns.length : Int) ≤ t
      · rw [finalV_bad (by omega)]
        ((repeat refine WpM.seq ?_); have z_ex := (And.intro @h1 (And.intro @h2 True.intro)); refine WpM.regPE [] [(1, _), (2, _), (3, _), (22, _)] (by (refine s_o [(3, _)] rfl rfl rfl z_su rfl q_load z_fp z_ss ?_; refine s_pure (callOf_eq rfl rfl rfl (mlk_tmp z_lk mlk_nil)) (hck) rfl rfl z_ip z_fp ?_; refine s_o [(10, _)] rfl rfl rfl z_su rfl q_full z_fp z_ss ?_; refine s_o [(11, _)] rfl rfl rfl z_su rfl q_move z_fp z_ss ?_; refine s_wit ?_; intro z_g; (first | refine s_skip rfl z_g z_fp ?_ | (refine s_o [(1, _)] rfl z_g rfl z_su rfl q_move z_fp z_ss ?_)); clear z_g; refine s_wit ?_; intro z_g; (first | refine s_skip rfl z_g z_fp ?_ | (refine s_o [(13, _)] rfl z_g rfl z_su rfl q_full z_fp z_ss ?_)); clear z_g; refine s_o [(12, _), (14, _)] rfl rfl rfl z_su rfl q_move z_fp z_ss ?_; refine s_o [(15, _)] rfl rfl rfl z_su rfl q_move z_fp z_ss ?_; refine s_wit ?_; intro z_g; (first | refine s_skip rfl z_g z_fp ?_ | (refine s_o [(1, _)] rfl z_g rfl z_su rfl q_move z_fp z_ss ?_)); clear z_g; refine s_wit ?_; intro z_g; (first | refine s_skip rfl z_g z_fp ?_ | (refine s_o [(3, _)] rfl z_g rfl z_su rfl q_fieldAddr z_fp z_ss ?_)); clear z_g; refine s_wit ?_; intro z_g; (first | refine s_skip rfl z_g z_fp ?_ | (refine s_o [(18, _)] rfl z_g rfl z_su rfl q_load z_fp z_ss ?_)); clear z_g; refine s_wit ?_; intro z_g; (first | refine s_skip rfl z_g z_fp ?_ | (refine s_o [(19, _)] rfl z_g rfl z_su rfl q_full z_fp z_ss ?_)); clear z_g; refine s_wit ?_; intro z_g; (first | refine s_skip rfl z_g z_fp ?_ | (refine s_o [(17, _), (20, _)] rfl z_g rfl z_su rfl q_full z_fp z_ss ?_)); clear z_g; refine s_o [(16, _), (21, _)] rfl rfl rfl z_su rfl q_move z_fp z_ss ?_; exact wpS_nil ⟨rfl, rfl⟩)) z_su ?_; clear z_ex)
        ((repeat refine WpM.seq ?_); refine WpM.condT (by (simp (maxSteps := 2000000) (disch := omega) [go_sem, -List.map_map, h2])) ?_)
        ((repeat refine WpM.seq ?_); have z_ex := True.intro; refine WpM.regPE [] [(6, _), (7, _)] (by (refine s_o [] rfl rfl rfl z_su rfl q_move z_fp z_ss ?_; refine s_o [] rfl rfl rfl z_su rfl q_move z_fp z_ss ?_; exact wpS_nil ⟨rfl, rfl⟩)) z_su ?_; clear z_ex)
        refine WpM.ret ?_
        refine ⟨.inr rfl, Upd.pureNil 6 (.inl (by (simp (maxSteps := 2000000) (disch := omega) [go_sem, -List.map_map]))) (Upd.done ⟨_, (by (simp (maxSteps := 2000000) (disch := omega) [go_sem, -List.map_map, resV, resVs, resV1, fset])), rfl, fun m k _ hk => ?_⟩)⟩
        have := hH _ _ hk
        (simp (maxSteps := 2000000) (disch := omega) [go_sem, -List.map_map, hk])
      · obtain ⟨i, rfl⟩ : ∃ i : Nat, t = i := ⟨t.toNat, by omega⟩
        have hi : i < h.txns.length := by omega
        rw [finalV_good hi hok.symm]
        have hwr := wrote59 h hb i hi key
        obtain ⟨wl, hwl⟩ : ∃ wl, wl = wroteL h.txns[i].ops key := ⟨_, rfl⟩
        rw [← hwl] at hwr ⊢
        ((repeat refine WpM.seq ?_); have z_ex := (And.intro @h1 (And.intro @h2 True.intro)); refine WpM.regPE [] [(1, _), (2, _), (3, _), (22, _)] (by (refine s_o [(3, _)] rfl rfl rfl z_su rfl q_load z_fp z_ss ?_; refine s_pure (callOf_eq rfl rfl rfl (mlk_tmp z_lk mlk_nil)) (hck) rfl rfl z_ip z_fp ?_; refine s_o [(10, _)] rfl rfl rfl z_su rfl q_full z_fp z_ss ?_; refine s_o [(11, _)] rfl rfl rfl z_su rfl q_move z_fp z_ss ?_; refine s_wit ?_; intro z_g; (first | refine s_skip rfl z_g z_fp ?_ | (refine s_o [(1, _)] rfl z_g rfl z_su rfl q_move z_fp z_ss ?_)); clear z_g; refine s_wit ?_; intro z_g; (first | refine s_skip rfl z_g z_fp ?_ | (refine s_o [(13, _)] rfl z_g rfl z_su rfl q_full z_fp z_ss ?_)); clear z_g; refine s_o [(12, _), (14, _)] rfl rfl rfl z_su rfl q_move z_fp z_ss ?_; refine s_o [(15, _)] rfl rfl rfl z_su rfl q_move z_fp z_ss ?_; refine s_wit ?_; intro z_g; (first | refine s_skip rfl z_g z_fp ?_ | (refine s_o [(1, _)] rfl z_g rfl z_su rfl q_move z_fp z_ss ?_)); clear z_g; refine s_wit ?_; intro z_g; (first | refine s_skip rfl z_g z_fp ?_ | (refine s_o [(3, _)] rfl z_g rfl z_su rfl q_fieldAddr z_fp z_ss ?_)); clear z_g; refine s_wit ?_; intro z_g; (first | refine s_skip rfl z_g z_fp ?_ | (refine s_o [(18, _)] rfl z_g rfl z_su rfl q_load z_fp z_ss ?_)); clear z_g; refine s_wit ?_; intro z_g; (first | refine s_skip rfl z_g z_fp ?_ | (refine s_o [(19, _)] rfl z_g rfl z_su rfl q_full z_fp z_ss ?_)); clear z_g; refine s_wit ?_; intro z_g; (first | refine s_skip rfl z_g z_fp ?_ | (refine s_o [(17, _), (20, _)] rfl z_g rfl z_su rfl q_full z_fp z_ss ?_)); clear z_g; refine s_o [(16, _), (21, _)] rfl rfl rfl z_su rfl q_move z_fp z_ss ?_; exact wpS_nil ⟨rfl, rfl⟩)) z_su ?_; clear z_ex)
        ((repeat refine WpM.seq ?_); refine WpM.condF (by (simp (maxSteps := 2000000) (disch := omega) [go_sem, -List.map_map, h2])) ?_)
        refine WpM.skip ?_
        ((repeat refine WpM.seq ?_); have z_ex := True.intro; refine WpM.regPE [] [(8, _)] (by (refine s_o [(3, _)] rfl rfl rfl z_su rfl q_load z_fp z_ss ?_; refine s_o [(1, _)] rfl rfl rfl z_su rfl q_move z_fp z_ss ?_; refine s_o [(2, _)] rfl rfl rfl z_su rfl q_move z_fp z_ss ?_; refine s_pure (callOf_eq rfl rfl rfl (mlk_tmp z_lk (mlk_tmp z_lk (mlk_tmp z_lk mlk_nil)))) (hwr) rfl rfl z_ip z_fp ?_; refine s_o [(26, _)] rfl rfl rfl z_su rfl q_move z_fp z_ss ?_; exact wpS_nil ⟨rfl, rfl⟩)) z_su ?_; clear z_ex)
        ((repeat refine WpM.seq ?_); have z_ex := (And.intro @ints.eq_1 True.intro); refine WpM.regPE [] [(6, _), (7, _)] (by (refine s_o [(8, _)] rfl rfl rfl z_su rfl q_move z_fp z_ss ?_; refine s_o [(8, _)] rfl rfl rfl z_su rfl q_move z_fp z_ss ?_; refine s_o [(28, _)] rfl rfl rfl z_su rfl q_full z_fp z_ss ?_; refine s_o [(29, _)] rfl rfl rfl z_su rfl q_full z_fp z_ss ?_; refine s_o [(27, _)] rfl rfl rfl z_su rfl q_move z_fp z_ss ?_; refine s_o [(30, _)] rfl rfl rfl z_su rfl q_move z_fp z_ss ?_; exact wpS_nil ⟨rfl, rfl⟩)) z_su ?_; clear z_ex)
        refine WpM.ret ?_
        exact ⟨.inr rfl, Upd.done ⟨_, (by (simp (maxSteps := 2000000) (disch := omega) [go_sem, -List.map_map, resV, resVs, resV1, ints])), rfl, fun m k _ hk => by have := hH _ _ hk; (simp (maxSteps := 2000000) (disch := omega) [go_sem, -List.map_map, hk])⟩⟩
end Go.Proofs.Ytjjmedgibcffhaa
/- Type and Writers, both ways. -/
namespace Go.Proofs.Ytjjmedgibcffhaa
open Go.RowKit M
set_option linter.unusedSimpArgs false
set_option linter.unusedVariables false
def allOps (h : HistD) : List OpD := h.txns.flatMap (·.ops)
noncomputable def typeF (h : HistD) (key : Int) : Int := if checkB h = true then match (allOps h).find? (fun o => decide (o.key = key)) with | some o => tyOf o.kind | none => 0 else 0
theorem type_hit {h : HistD} {key : Int} {i k : Nat} (hi : i < h.txns.length) (hk : k < h.txns[i].ops.length) (hn : ∀ (q : Nat) (hq : q < h.txns.length), q < i → ∀ o ∈ h.txns[q].ops, o.key ≠ key) (hn2 : ∀ (r : Nat) (hr : r < h.txns[i].ops.length), r < k → h.txns[i].ops[r].key ≠ key) (he : h.txns[i].ops[k].key = key) :
    (allOps h).find? (fun o => decide (o.key = key)) = some h.txns[i].ops[k] := by
  have e1 : h.txns = h.txns.take i ++ h.txns[i] :: h.txns.drop (i + 1) := by rw [← List.drop_eq_getElem_cons hi, List.take_append_drop]
  have e2 : h.txns[i].ops = h.txns[i].ops.take k ++ h.txns[i].ops[k] :: h.txns[i].ops.drop (k + 1) := by rw [← List.drop_eq_getElem_cons hk, List.take_append_drop]
  have n1 : ((h.txns.take i).flatMap (·.ops)).find? (fun o => decide (o.key = key)) = none := by
    rw [List.find?_eq_none]
    intro o ho
    obtain ⟨t, ht, ho⟩ := List.mem_flatMap.1 ho
    obtain ⟨q, hq, rfl⟩ := List.mem_take_iff_getElem.1 ht
    simpa using hn q (by omega) (by omega) o ho
  have n2 : (h.txns[i].ops.take k).find? (fun o => decide (o.key = key)) = none := by
    rw [List.find?_eq_none]
    intro o ho
    obtain ⟨q, hq, rfl⟩ := List.mem_take_iff_getElem.1 ho
    simpa using hn2 q (by omega) (by omega)
  rw [allOps]
  conv => lhs; rw [e1]
  rw [List.flatMap_append, List.find?_append, n1, Option.none_or, List.flatMap_cons, List.find?_append]
  conv => lhs; rw [e2]
  rw [List.find?_append, n2, Option.none_or, List.find?_cons_of_pos (by simpa using he)]
  rfl
theorem type_miss {h : HistD} {key : Int} (hn : ∀ (q : Nat) (hq : q < h.txns.length), ∀ o ∈ h.txns[q].ops, o.key ≠ key) : (allOps h).find? (fun o => decide (o.key = key)) = none := by
  rw [List.find?_eq_none]
  intro o ho
  obtain ⟨t, ht, ho⟩ := List.mem_flatMap.1 ho
  obtain ⟨q, hq, rfl⟩ := List.getElem_of_mem ht
  simpa using hn q hq o ho
theorem checkSt_all {h : HistD} : ∀ {m : Nat} {b : Bk}, checkSt h m = some b → ∀ i, i < m → ∃ b0 b1, checkSt h i = some b0 ∧ stepT h i b0 = some b1
  | 0, b, _, i, hi => by omega
  | m + 1, b, hm, i, hi => by
    rw [checkSt] at hm
    cases hc : checkSt h m with
    | none => rw [hc] at hm; cases hm
    | some b0 =>
      rw [hc] at hm
      rcases Nat.lt_or_ge i m with h1 | h1
      · exact checkSt_all hc i h1
      · obtain rfl : i = m := by omega
        exact ⟨b0, b, hc, hm⟩
theorem checkB_ev {h : HistD} (hc : checkB h = true) {i : Nat} (hi : i < h.txns.length) : evOkB h.keys h.txns[i] = true := by
  rw [checkB, Bool.and_eq_true] at hc
  obtain ⟨b, hb⟩ := Option.isSome_iff_exists.1 hc.2
  obtain ⟨b0, b1, _, hs⟩ := checkSt_all hb i hi
  rw [stepT_get hi] at hs
  split at hs
  · rename_i hcond
    rw [Bool.and_eq_true] at hcond
    exact hcond.1
  · cases hs
theorem checkB_kind {h : HistD} (hc : checkB h = true) {i : Nat} (hi : i < h.txns.length) {o : OpD} (ho : o ∈ h.txns[i].ops) : 1 ≤ o.kind ∧ o.kind ≤ 8 := by
  have hev := checkB_ev hc hi
  rw [evOkB, Bool.and_eq_true] at hev
  obtain ⟨ha, he⟩ := hev
  have hw := (takeWhile_good (okKey h.keys.length) h.txns[i].ops (fun j hj => List.all_eq_true.1 ha _ (List.getElem_mem _))).1
  have := (eventOk_spec he).2.2.2 (callOf' h.keys o) (by simp only [evOf, hw]; exact List.mem_map_of_mem ho)
  exact callOk_kind this
set_option maxHeartbeats 8000000 in
theorem type34 (h : HistD) (hh : HistOk h) (key : Int) : PureC Try.prog 34 [.d (encHist h), .d (.int .i64 key)] (.d (.int .i64 (typeF h key))) := by
  intro S
  refine CallM.pure' (by rfl) (CallM.start (n := 35) Try.func34 rfl rfl (by simp) (by simp only [argL, Nat.reduceAdd] <;> rfl) ?_)
  intro hH
  obtain ⟨H, hHe⟩ : ∃ H, H = S.get := ⟨_, rfl⟩
  obtain ⟨n0, hne⟩ : ∃ n0, n0 = S.next := ⟨_, rfl⟩
  rw [← hHe, ← hne] at hH ⊢
  have hb := hh.b
  have hlen := hb.len
  have hck := check32 h hh
  cases hok : checkB h with
  | false =>
    rw [hok, errno_f] at hck
    have hr : typeF h key = 0 := by rw [typeF, hok]; rfl
    rw [hr]
    ((repeat refine WpM.seq ?_); have z_ex := (And.intro @encHist.eq_1 True.intro); refine WpM.regPE [] [(1, _), (2, _)] (by (refine s_o [(0, _)] rfl rfl rfl z_su rfl q_box z_fp z_ss ?_; refine s_o [] rfl rfl rfl z_su rfl q_move z_fp z_ss ?_; exact wpS_nil ⟨rfl, rfl⟩)) z_su ?_; clear z_ex)
    ((repeat refine WpM.seq ?_); have z_ex := True.intro; refine WpM.regPE [] [(1, _), (2, _), (11, _)] (by (refine s_o [(2, _)] rfl rfl rfl z_su rfl q_load z_fp z_ss ?_; refine s_pure (callOf_eq rfl rfl rfl (mlk_tmp z_lk mlk_nil)) (hck) rfl rfl z_ip z_fp ?_; refine s_o [(10, _)] rfl rfl rfl z_su rfl q_full z_fp z_ss ?_; exact wpS_nil ⟨rfl, rfl⟩)) z_su ?_; clear z_ex)
    ((repeat refine WpM.seq ?_); refine WpM.condT (by (simp (maxSteps := 2000000) (disch := omega) [go_sem, -List.map_map])) ?_)
    ((repeat refine WpM.seq ?_); have z_ex := True.intro; refine WpM.regPE [] [(4, _)] (by (refine s_o [] rfl rfl rfl z_su rfl q_move z_fp z_ss ?_; exact wpS_nil ⟨rfl, rfl⟩)) z_su ?_; clear z_ex)
    refine WpM.ret ?_
    exact ⟨.inr rfl, Upd.done ⟨_, (by (simp (maxSteps := 2000000) (disch := omega) [go_sem, -List.map_map, resV, resVs, resV1])), rfl, fun m k _ hk => by have := hH _ _ hk; (simp (maxSteps := 2000000) (disch := omega) [go_sem, -List.map_map, hk])⟩⟩
  | true =>
    rw [hok, errno_t] at hck
    ((repeat refine WpM.seq ?_); have z_ex := (And.intro @encHist.eq_1 True.intro); refine WpM.regPE [] [(1, _), (2, _)] (by (refine s_o [(0, _)] rfl rfl rfl z_su rfl q_box z_fp z_ss ?_; refine s_o [] rfl rfl rfl z_su rfl q_move z_fp z_ss ?_; exact wpS_nil ⟨rfl, rfl⟩)) z_su ?_; clear z_ex)
    ((repeat refine WpM.seq ?_); have z_ex := True.intro; refine WpM.regPE [] [(1, _), (2, _), (11, _)] (by (refine s_o [(2, _)] rfl rfl rfl z_su rfl q_load z_fp z_ss ?_; refine s_pure (callOf_eq rfl rfl rfl (mlk_tmp z_lk mlk_nil)) (hck) rfl rfl z_ip z_fp ?_; refine s_o [(10, _)] rfl rfl rfl z_su rfl q_full z_fp z_ss ?_; exact wpS_nil ⟨rfl, rfl⟩)) z_su ?_; clear z_ex)
    ((repeat refine WpM.seq ?_); refine WpM.condF (by (simp (maxSteps := 2000000) (disch := omega) [go_sem, -List.map_map])) ?_)
    refine WpM.skip ?_
    ((repeat refine WpM.seq ?_); have z_ex := True.intro; refine WpM.regPE [] [(1, _), (13, _), (14, _), (15, _)] (by (refine s_o [(2, _)] rfl rfl rfl z_su rfl q_fieldAddr z_fp z_ss ?_; refine s_o [(12, _)] rfl rfl rfl z_su rfl q_load z_fp z_ss ?_; refine s_o [(13, _)] rfl rfl rfl z_su rfl q_full z_fp z_ss ?_; refine s_o [] rfl rfl rfl z_su rfl q_move z_fp z_ss ?_; exact wpS_nil ⟨rfl, rfl⟩)) z_su ?_; clear z_ex)
    ((repeat refine WpM.seq ?_); refine WpM.block ?_)
    refine WpM.loop (fun (i : Nat) fr S => i ≤ h.txns.length ∧ (∀ (q : Nat) (hq : q < h.txns.length), q < i → ∀ o ∈ h.txns[q].ops, o.key ≠ key) ∧ (∃ nx, n0 ≤ nx ∧ S = ⟨nx, [], H⟩) ∧ fr = frOf [(1, .d (.int .i64 key)), (13, .d (.sl (h.txns.map encTxn))), (14, .d (.int .i64 h.txns.length)), (15, .d (.int .i64 i))]) (fun i => h.txns.length - i) 0 (le_cut (n0 := n0) (n' := n0 + 9) (l' := []) hH (by (simp (maxSteps := 2000000) (disch := omega) [go_sem, -List.map_map])) (by (simp (maxSteps := 2000000) (disch := omega) [go_sem, -List.map_map])) (by (simp (maxSteps := 2000000) (disch := omega) [go_sem, -List.map_map]))) (Sub.le z_su) ⟨by omega, fun q _ hq => by omega, ⟨_, by omega, rfl⟩, rfl⟩ ?_
    rintro i fr S' ⟨hi, hn, ⟨nx, hnx, rfl⟩, rfl⟩
    ((repeat refine WpM.seq ?_); have z_ex := True.intro; refine WpM.regPE [] [(1, _), (13, _), (14, _), (15, _), (16, _)] (by (refine s_o [(14, _), (15, _)] rfl rfl rfl z_su rfl q_full z_fp z_ss ?_; exact wpS_nil ⟨rfl, rfl⟩)) z_su ?_; clear z_ex)
    by_cases hit : i < h.txns.length
    · ((repeat refine WpM.seq ?_); refine WpM.condT (by (simp (maxSteps := 2000000) (disch := omega) [go_sem, -List.map_map, hit])) ?_)
      refine WpM.skip ?_
      ((repeat refine WpM.seq ?_); refine WpM.block ?_)
      obtain ⟨t, ht⟩ : ∃ t, t = h.txns[i] := ⟨_, rfl⟩
      have hget : (h.txns.map encTxn)[i]? = some (encTxn t) := by simp [hit, ht]
      have hlt := (hb.txns t (ht ▸ List.getElem_mem _)).len
      ((repeat refine WpM.seq ?_); have z_ex := (And.intro @hget (And.intro @encTxn.eq_1 True.intro)); refine WpM.regPE [] [(1, _), (6, _), (13, _), (14, _), (15, _)] (by (refine s_o [(13, _), (15, _)] rfl rfl rfl z_su rfl q_full z_fp z_ss ?_; refine s_o [(17, _)] rfl rfl rfl z_su rfl q_load z_fp z_ss ?_; refine s_o [] rfl rfl rfl z_su rfl q_alloc z_fp z_ss ?_; refine s_o [(6, _), (18, _)] rfl rfl rfl z_su rfl q_store z_fp z_ss ?_; exact wpS_nil ⟨rfl, rfl⟩)) z_su ?_; clear z_ex)
      ((repeat refine WpM.seq ?_); have z_ex := True.intro; refine WpM.regPE [] [(1, _), (13, _), (14, _), (15, _), (20, _), (21, _), (22, _)] (by (refine s_o [(6, _)] rfl rfl rfl z_su rfl q_fieldAddr z_fp z_ss ?_; refine s_o [(19, _)] rfl rfl rfl z_su rfl q_load z_fp z_ss ?_; refine s_o [(20, _)] rfl rfl rfl z_su rfl q_full z_fp z_ss ?_; refine s_o [] rfl rfl rfl z_su rfl q_move z_fp z_ss ?_; exact wpS_nil ⟨rfl, rfl⟩)) z_su ?_; clear z_ex)
      ((repeat refine WpM.seq ?_); refine WpM.block ?_)
      refine WpM.loop (fun (k : Nat) fr S => k ≤ t.ops.length ∧ (∀ (r : Nat) (hr : r < t.ops.length), r < k → t.ops[r].key ≠ key) ∧ (∃ nx, n0 ≤ nx ∧ S = ⟨nx, [], H⟩) ∧ fr = frOf [(1, .d (.int .i64 key)), (13, .d (.sl (h.txns.map encTxn))), (14, .d (.int .i64 h.txns.length)), (15, .d (.int .i64 i)), (20, .d (.sl (t.ops.map encOp))), (21, .d (.int .i64 t.ops.length)), (22, .d (.int .i64 k))]) (fun k => t.ops.length - k) 0 (le_cut (n0 := n0) (n' := nx + 9) (l' := []) hH (by (simp (maxSteps := 2000000) (disch := omega) [go_sem, -List.map_map]); omega) (by (simp (maxSteps := 2000000) (disch := omega) [go_sem, -List.map_map])) (by (simp (maxSteps := 2000000) (disch := omega) [go_sem, -List.map_map]))) (Sub.le z_su) ⟨by omega, fun q _ hq => by omega, ⟨_, by omega, rfl⟩, rfl⟩ ?_
      rintro k fr S' ⟨hk, hn2, ⟨nx2, hnx2, rfl⟩, rfl⟩
      ((repeat refine WpM.seq ?_); have z_ex := True.intro; refine WpM.regPE [] [(1, _), (13, _), (14, _), (15, _), (20, _), (21, _), (22, _), (23, _)] (by (refine s_o [(21, _), (22, _)] rfl rfl rfl z_su rfl q_full z_fp z_ss ?_; exact wpS_nil ⟨rfl, rfl⟩)) z_su ?_; clear z_ex)
      by_cases hkt : k < t.ops.length
      · ((repeat refine WpM.seq ?_); refine WpM.condT (by (simp (maxSteps := 2000000) (disch := omega) [go_sem, -List.map_map, hkt])) ?_)
        refine WpM.skip ?_
        ((repeat refine WpM.seq ?_); refine WpM.block ?_)
        obtain ⟨o, ho⟩ : ∃ o, o = t.ops[k] := ⟨_, rfl⟩
        have hgeto : (t.ops.map encOp)[k]? = some (encOp o) := by simp [hkt, ho]
        ((repeat refine WpM.seq ?_); have z_ex := (And.intro @hgeto (And.intro @encOp.eq_1 True.intro)); refine WpM.regPE [] [(1, _), (8, _), (13, _), (14, _), (15, _), (20, _), (21, _), (22, _)] (by (refine s_o [(20, _), (22, _)] rfl rfl rfl z_su rfl q_full z_fp z_ss ?_; refine s_o [(24, _)] rfl rfl rfl z_su rfl q_load z_fp z_ss ?_; refine s_o [] rfl rfl rfl z_su rfl q_alloc z_fp z_ss ?_; refine s_o [(8, _), (25, _)] rfl rfl rfl z_su rfl q_store z_fp z_ss ?_; exact wpS_nil ⟨rfl, rfl⟩)) z_su ?_; clear z_ex)
        by_cases he : o.key = key
        · obtain ⟨hk1, hk8⟩ := checkB_kind hok hit (o := o) (by rw [← ht, ho]; exact List.getElem_mem _)
          have hty := typeOf57 o.kind hk1 hk8
          have hr : typeF h key = tyOf o.kind := by
            subst ht
            rw [typeF, if_pos hok, type_hit hit hkt hn hn2 (by rw [← ho]; exact he), ho]
          rw [hr]
          ((repeat refine WpM.seq ?_); have z_ex := (And.intro @he True.intro); refine WpM.regPE [] [(1, _), (8, _), (13, _), (14, _), (15, _), (20, _), (21, _), (22, _), (29, _)] (by (refine s_o [(8, _)] rfl rfl rfl z_su rfl q_fieldAddr z_fp z_ss ?_; refine s_o [(26, _)] rfl rfl rfl z_su rfl q_load z_fp z_ss ?_; refine s_o [(1, _)] rfl rfl rfl z_su rfl q_move z_fp z_ss ?_; refine s_o [(27, _), (28, _)] rfl rfl rfl z_su rfl q_full z_fp z_ss ?_; exact wpS_nil ⟨rfl, rfl⟩)) z_su ?_; clear z_ex)
          ((repeat refine WpM.seq ?_); refine WpM.condT (by (simp (maxSteps := 2000000) (disch := omega) [go_sem, -List.map_map, he])) ?_)
          ((repeat refine WpM.seq ?_); have z_ex := True.intro; refine WpM.regPE [] [(4, _)] (by (refine s_o [(8, _)] rfl rfl rfl z_su rfl q_fieldAddr z_fp z_ss ?_; refine s_o [(30, _)] rfl rfl rfl z_su rfl q_load z_fp z_ss ?_; refine s_pure (callOf_eq rfl rfl rfl (mlk_tmp z_lk mlk_nil)) (hty) rfl rfl z_ip z_fp ?_; refine s_o [(32, _)] rfl rfl rfl z_su rfl q_move z_fp z_ss ?_; exact wpS_nil ⟨rfl, rfl⟩)) z_su ?_; clear z_ex)
          refine WpM.ret ?_
          exact ⟨.inr rfl, Upd.done ⟨_, (by (simp (maxSteps := 2000000) (disch := omega) [go_sem, -List.map_map, resV, resVs, resV1])), rfl, fun m k _ hk => by have := hH _ _ hk; (simp (maxSteps := 2000000) (disch := omega) [go_sem, -List.map_map, hk])⟩⟩
        · ((repeat refine WpM.seq ?_); have z_ex := (And.intro @he True.intro); refine WpM.regPE [] [(1, _), (8, _), (13, _), (14, _), (15, _), (20, _), (21, _), (22, _), (29, _)] (by (refine s_o [(8, _)] rfl rfl rfl z_su rfl q_fieldAddr z_fp z_ss ?_; refine s_o [(26, _)] rfl rfl rfl z_su rfl q_load z_fp z_ss ?_; refine s_o [(1, _)] rfl rfl rfl z_su rfl q_move z_fp z_ss ?_; refine s_o [(27, _), (28, _)] rfl rfl rfl z_su rfl q_full z_fp z_ss ?_; exact wpS_nil ⟨rfl, rfl⟩)) z_su ?_; clear z_ex)
          ((repeat refine WpM.seq ?_); refine WpM.condF (by (simp (maxSteps := 2000000) (disch := omega) [go_sem, -List.map_map, he])) ?_)
          refine WpM.skip ?_
          ((repeat refine WpM.seq ?_); have z_ex := (And.intro @wrap_id True.intro); refine WpM.regPE [] [(1, _), (13, _), (14, _), (15, _), (20, _), (21, _), (22, _)] (by (refine s_o [(22, _)] rfl rfl rfl z_su rfl q_full z_fp z_ss ?_; refine s_o [(33, _)] rfl rfl rfl z_su rfl q_move z_fp z_ss ?_; exact wpS_nil ⟨rfl, rfl⟩)) z_su ?_; clear z_ex)
          have hn2' : ∀ (r : Nat) (hr : r < t.ops.length), r < k + 1 → t.ops[r].key ≠ key := fun r hr hlt => by
            rcases Nat.lt_or_ge r k with h1 | h1
            · exact hn2 r hr h1
            · obtain rfl : r = k := by omega
              rw [← ho]; exact he
          exact round_end (x' := k + 1) (le_cut (n0 := n0) (l' := []) hH (by (simp (maxSteps := 2000000) (disch := omega) [go_sem, -List.map_map]); omega) (Nat.le_refl _) (by (simp (maxSteps := 2000000) (disch := omega) [go_sem, -List.map_map]))) (Sub.le z_su) ⟨by omega, hn2', ⟨_, by omega, rfl⟩, rfl⟩ (by omega)
      · ((repeat refine WpM.seq ?_); refine WpM.condF (by (simp (maxSteps := 2000000) (disch := omega) [go_sem, -List.map_map, hkt])) ?_)
        (refine WpM.exit ?_; (repeat (with_reducible (first | refine thenM_exit ?_ | refine blockM_eq ?_ | refine blockM_ne (by decide) ?_))))
        have hn' : ∀ (q : Nat) (hq : q < h.txns.length), q < i + 1 → ∀ o ∈ h.txns[q].ops, o.key ≠ key := fun q hq hlt o ho => by
          rcases Nat.lt_or_ge q i with h1 | h1
          · exact hn q hq h1 o ho
          · obtain rfl : q = i := by omega
            rw [← ht] at ho
            obtain ⟨r, hr, rfl⟩ := List.getElem_of_mem ho
            exact hn2 r hr (by omega)
        ((repeat refine WpM.seq ?_); have z_ex := (And.intro @wrap_id True.intro); refine WpM.regPE [] [(1, _), (13, _), (14, _), (15, _)] (by (refine s_o [(15, _)] rfl rfl rfl z_su rfl q_full z_fp z_ss ?_; refine s_o [(34, _)] rfl rfl rfl z_su rfl q_move z_fp z_ss ?_; exact wpS_nil ⟨rfl, rfl⟩)) z_su ?_; clear z_ex)
        exact round_end (x' := i + 1) (St.Le.refl _) (Sub.le z_su) ⟨by omega, hn', ⟨_, by omega, rfl⟩, rfl⟩ (by omega)
    · ((repeat refine WpM.seq ?_); refine WpM.condF (by (simp (maxSteps := 2000000) (disch := omega) [go_sem, -List.map_map, hit])) ?_)
      (refine WpM.exit ?_; (repeat (with_reducible (first | refine thenM_exit ?_ | refine blockM_eq ?_ | refine blockM_ne (by decide) ?_))))
      have hr : typeF h key = 0 := by rw [typeF, if_pos hok, type_miss fun q hq => hn q hq (by omega)]
      rw [hr]
      ((repeat refine WpM.seq ?_); have z_ex := True.intro; refine WpM.regPE [] [(4, _)] (by (refine s_o [] rfl rfl rfl z_su rfl q_move z_fp z_ss ?_; exact wpS_nil ⟨rfl, rfl⟩)) z_su ?_; clear z_ex)
      refine WpM.ret ?_
      exact ⟨.inr rfl, Upd.done ⟨_, (by (simp (maxSteps := 2000000) (disch := omega) [go_sem, -List.map_map, resV, resVs, resV1])), rfl, fun m k _ hk => by have := hH _ _ hk; (simp (maxSteps := 2000000) (disch := omega) [go_sem, -List.map_map, hk])⟩⟩
end Go.Proofs.Ytjjmedgibcffhaa
/- Writers, both ways; Type of the reference. -/
namespace Go.Proofs.Ytjjmedgibcffhaa
open Go.RowKit M
set_option linter.unusedSimpArgs false
set_option linter.unusedVariables false
def writesB (h : HistD) (key : Int) (i : Nat) : Bool := match h.txns[i]? with | some t => decide (t.status ≠ 2) && decide (0 < (wroteL t.ops key).length) | none => false
def writersL (h : HistD) (key : Int) (n : Nat) : List Int := ((List.range n).filter (writesB h key)).map fun (i : Nat) => (i : Int)
noncomputable def writersF (h : HistD) (key : Int) : List Int := if checkB h = true then writersL h key h.txns.length else []
theorem writersL_step (h : HistD) (key : Int) (n : Nat) : writersL h key (n + 1) = writersL h key n ++ if writesB h key n then [(n : Int)] else [] := by
  rw [writersL, List.range_succ, List.filter_append, List.map_append]
  congr 1
  by_cases hp : writesB h key n = true
  · simp [hp]
  · simp [hp]
theorem writersL_len (h : HistD) (key : Int) (n : Nat) : (writersL h key n).length ≤ n := by
  have := List.length_filter_le (writesB h key) (List.range n)
  simpa [writersL] using this
set_option maxHeartbeats 8000000 in
theorem writers40 (h : HistD) (hh : HistOk h) (key : Int) : PureC Try.prog 40 [.d (encHist h), .d (.int .i64 key)] (.d (ints (writersF h key))) := by
  intro S
  refine CallM.pure' (by rfl) (CallM.start (n := 35) Try.func40 rfl rfl (by simp) (by simp only [argL, Nat.reduceAdd] <;> rfl) ?_)
  intro hH
  obtain ⟨H, hHe⟩ : ∃ H, H = S.get := ⟨_, rfl⟩
  obtain ⟨n0, hne⟩ : ∃ n0, n0 = S.next := ⟨_, rfl⟩
  rw [← hHe, ← hne] at hH ⊢
  have hb := hh.b
  have hlen := hb.len
  have hck := check32 h hh
  cases hok : checkB h with
  | false =>
    rw [hok, errno_f] at hck
    have hr : writersF h key = [] := by rw [writersF, hok]; rfl
    rw [hr]
    ((repeat refine WpM.seq ?_); have z_ex := (And.intro @encHist.eq_1 True.intro); refine WpM.regPE [] [(1, _), (2, _)] (by (refine s_o [(0, _)] rfl rfl rfl z_su rfl q_box z_fp z_ss ?_; refine s_o [] rfl rfl rfl z_su rfl q_move z_fp z_ss ?_; exact wpS_nil ⟨rfl, rfl⟩)) z_su ?_; clear z_ex)
    ((repeat refine WpM.seq ?_); have z_ex := True.intro; refine WpM.regPE [] [(1, _), (2, _), (10, _)] (by (refine s_o [(2, _)] rfl rfl rfl z_su rfl q_load z_fp z_ss ?_; refine s_pure (callOf_eq rfl rfl rfl (mlk_tmp z_lk mlk_nil)) (hck) rfl rfl z_ip z_fp ?_; refine s_o [(9, _)] rfl rfl rfl z_su rfl q_full z_fp z_ss ?_; exact wpS_nil ⟨rfl, rfl⟩)) z_su ?_; clear z_ex)
    ((repeat refine WpM.seq ?_); refine WpM.condT (by (simp (maxSteps := 2000000) (disch := omega) [go_sem, -List.map_map])) ?_)
    ((repeat refine WpM.seq ?_); have z_ex := True.intro; refine WpM.regPE [] [(4, _)] (by (refine s_o [] rfl rfl rfl z_su rfl q_move z_fp z_ss ?_; exact wpS_nil ⟨rfl, rfl⟩)) z_su ?_; clear z_ex)
    refine WpM.ret ?_
    refine ⟨.inr rfl, Upd.pureNil 4 (.inl (by (simp (maxSteps := 2000000) (disch := omega) [go_sem, -List.map_map]))) (Upd.done ⟨_, (by (simp (maxSteps := 2000000) (disch := omega) [go_sem, -List.map_map, resV, resVs, resV1, fset, ints])), rfl, fun m k _ hk => ?_⟩)⟩
    have := hH _ _ hk
    (simp (maxSteps := 2000000) (disch := omega) [go_sem, -List.map_map, hk])
  | true =>
    rw [hok, errno_t] at hck
    have hr : writersF h key = writersL h key h.txns.length := by rw [writersF, if_pos hok]
    rw [hr]
    ((repeat refine WpM.seq ?_); have z_ex := (And.intro @encHist.eq_1 True.intro); refine WpM.regPE [] [(1, _), (2, _)] (by (refine s_o [(0, _)] rfl rfl rfl z_su rfl q_box z_fp z_ss ?_; refine s_o [] rfl rfl rfl z_su rfl q_move z_fp z_ss ?_; exact wpS_nil ⟨rfl, rfl⟩)) z_su ?_; clear z_ex)
    ((repeat refine WpM.seq ?_); have z_ex := True.intro; refine WpM.regPE [] [(1, _), (2, _), (10, _)] (by (refine s_o [(2, _)] rfl rfl rfl z_su rfl q_load z_fp z_ss ?_; refine s_pure (callOf_eq rfl rfl rfl (mlk_tmp z_lk mlk_nil)) (hck) rfl rfl z_ip z_fp ?_; refine s_o [(9, _)] rfl rfl rfl z_su rfl q_full z_fp z_ss ?_; exact wpS_nil ⟨rfl, rfl⟩)) z_su ?_; clear z_ex)
    ((repeat refine WpM.seq ?_); refine WpM.condF (by (simp (maxSteps := 2000000) (disch := omega) [go_sem, -List.map_map])) ?_)
    refine WpM.skip ?_
    ((repeat refine WpM.seq ?_); have z_ex := True.intro; refine WpM.regPE [] [(1, _), (2, _), (5, _)] (by (refine s_o [] rfl rfl rfl z_su rfl q_move z_fp z_ss ?_; exact wpS_nil ⟨rfl, rfl⟩)) z_su ?_; clear z_ex)
    refine Upd.wp (Upd.ghost 5 1 (.inl (by (simp (maxSteps := 2000000) (disch := omega) [go_sem, -List.map_map]))) (Upd.done ?_))
    refine WpM.less (le_cut (n0 := n0) (n' := n0 + 6) (l' := [(n0, some (histBox h)), (n0 + 5, some (.row 1 []))]) hH (by (simp (maxSteps := 2000000) (disch := omega) [go_sem, -List.map_map])) (by (simp (maxSteps := 2000000) (disch := omega) [go_sem, -List.map_map])) (by (simp (maxSteps := 2000000) (disch := omega) [go_sem, -List.map_map, histBox, strs]))) (frLe_frOf (l := [(1, .d (.int .i64 key)), (2, .ptr n0 0), (5, .ms (n0 + 5) 1 0 0)]) (by (simp (maxSteps := 2000000) (disch := omega) [go_sem, -List.map_map]))) ?_
    ((repeat refine WpM.seq ?_); have z_ex := (And.intro @histBox.eq_1 True.intro); refine WpM.regPE [] [(1, _), (5, _), (12, _), (13, _), (14, _)] (by (refine s_o [(2, _)] rfl rfl rfl z_su rfl q_fieldAddr z_fp z_ss ?_; refine s_o [(11, _)] rfl rfl rfl z_su rfl q_load z_fp z_ss ?_; refine s_o [(12, _)] rfl rfl rfl z_su rfl q_full z_fp z_ss ?_; refine s_o [] rfl rfl rfl z_su rfl q_move z_fp z_ss ?_; exact wpS_nil ⟨rfl, rfl⟩)) z_su ?_; clear z_ex)
    ((repeat refine WpM.seq ?_); refine WpM.block ?_)
    refine WpM.loop (fun (i : Nat) fr S => i ≤ h.txns.length ∧ ∃ nx nr ys, n0 ≤ nr ∧ nr < nx ∧ ys = intV (writersL h key i) ∧ fr = frOf [(1, .d (.int .i64 key)), (5, .ms nr 1 0 ys.length), (12, .d (.sl (h.txns.map encTxn))), (13, .d (.int .i64 h.txns.length)), (14, .d (.int .i64 i))] ∧ S = ⟨nx, [(nr, some (.row 1 ys))], H⟩) (fun i => h.txns.length - i) 0 (le_cut (n0 := n0) (n' := n0 + 12) (l' := [(n0 + 5, some (.row 1 []))]) hH (by (simp (maxSteps := 2000000) (disch := omega) [go_sem, -List.map_map])) (by (simp (maxSteps := 2000000) (disch := omega) [go_sem, -List.map_map])) (by (simp (maxSteps := 2000000) (disch := omega) [go_sem, -List.map_map]))) (Sub.le z_su) ⟨by omega, n0 + 12, n0 + 5, [], by omega, by omega, rfl, rfl, rfl⟩ ?_
    rintro i fr S' ⟨hi, nx, nr, ys, hnr, hnx, hys, rfl, rfl⟩
    have hyl : ys.length ≤ i := by have := writersL_len h key i; rw [hys, intV, List.length_map]; exact this
    ((repeat refine WpM.seq ?_); have z_ex := True.intro; refine WpM.regPE [] [(1, _), (5, _), (12, _), (13, _), (14, _), (15, _)] (by (refine s_o [(13, _), (14, _)] rfl rfl rfl z_su rfl q_full z_fp z_ss ?_; exact wpS_nil ⟨rfl, rfl⟩)) z_su ?_; clear z_ex)
    by_cases hit : i < h.txns.length
    · ((repeat refine WpM.seq ?_); refine WpM.condT (by (simp (maxSteps := 2000000) (disch := omega) [go_sem, -List.map_map, hit])) ?_)
      refine WpM.skip ?_
      ((repeat refine WpM.seq ?_); refine WpM.block ?_)
      obtain ⟨t, ht⟩ : ∃ t, t = h.txns[i] := ⟨_, rfl⟩
      have hget : (h.txns.map encTxn)[i]? = some (encTxn t) := by simp [hit, ht]
      have hwr := wrote58 t (hb.txns t (ht ▸ List.getElem_mem _)) key
      obtain ⟨wl, hwl⟩ : ∃ wl, wl = wroteL t.ops key := ⟨_, rfl⟩
      have hwb : writesB h key i = (decide (t.status ≠ 2) && decide (0 < wl.length)) := by rw [writesB, List.getElem?_eq_getElem hit, ← ht, hwl]
      rw [← hwl] at hwr
      have hstep := writersL_step h key i
      have no : writesB h key i = false → ys = intV (writersL h key (i + 1)) := fun hp => by rw [hstep, hp, hys]; simp [intV]
      ((repeat refine WpM.seq ?_); have z_ex := (And.intro @hget (And.intro @encTxn.eq_1 True.intro)); refine WpM.regPE [] [(1, _), (5, _), (6, _), (7, _), (12, _), (13, _), (14, _)] (by (refine s_o [(14, _)] rfl rfl rfl z_su rfl q_move z_fp z_ss ?_; refine s_o [(12, _), (14, _)] rfl rfl rfl z_su rfl q_full z_fp z_ss ?_; refine s_o [(17, _)] rfl rfl rfl z_su rfl q_load z_fp z_ss ?_; refine s_o [] rfl rfl rfl z_su rfl q_alloc z_fp z_ss ?_; refine s_o [(16, _)] rfl rfl rfl z_su rfl q_move z_fp z_ss ?_; refine s_o [(7, _), (18, _)] rfl rfl rfl z_su rfl q_store z_fp z_ss ?_; exact wpS_nil ⟨rfl, rfl⟩)) z_su ?_; clear z_ex)
      by_cases h2 : t.status = 2
      · have hp : writesB h key i = false := by rw [hwb]; simp [h2]
        ((repeat refine WpM.seq ?_); have z_ex := (And.intro @h2 True.intro); refine WpM.regPE [] [(1, _), (5, _), (6, _), (12, _), (13, _), (14, _), (28, _)] (by (refine s_o [(7, _)] rfl rfl rfl z_su rfl q_fieldAddr z_fp z_ss ?_; refine s_o [(19, _)] rfl rfl rfl z_su rfl q_load z_fp z_ss ?_; refine s_o [(20, _)] rfl rfl rfl z_su rfl q_full z_fp z_ss ?_; refine s_o [(21, _)] rfl rfl rfl z_su rfl q_move z_fp z_ss ?_; refine s_wit ?_; intro z_g; (first | refine s_skip rfl z_g z_fp ?_ | (refine s_o [(7, _)] rfl z_g rfl z_su rfl q_load z_fp z_ss ?_)); clear z_g; refine s_wit ?_; intro z_g; (first | refine s_skip rfl z_g z_fp ?_ | (refine s_o [(1, _)] rfl z_g rfl z_su rfl q_move z_fp z_ss ?_)); clear z_g; refine s_wit ?_; intro z_g; (first | refine s_skip rfl z_g z_fp ?_ | (refine s_pure (callOf_eq rfl rfl rfl (mlk_tmp z_lk (mlk_tmp z_lk mlk_nil))) (?missing) rfl z_g z_ip z_fp ?_)); clear z_g; refine s_wit ?_; intro z_g; (first | refine s_skip rfl z_g z_fp ?_ | (refine s_o [(25, _)] rfl z_g rfl z_su rfl q_full z_fp z_ss ?_)); clear z_g; refine s_wit ?_; intro z_g; (first | refine s_skip rfl z_g z_fp ?_ | (refine s_o [(26, _)] rfl z_g rfl z_su rfl q_full z_fp z_ss ?_)); clear z_g; refine s_o [(22, _), (27, _)] rfl rfl rfl z_su rfl q_move z_fp z_ss ?_; exact wpS_nil ⟨rfl, rfl⟩)) z_su ?_; clear z_ex)
        ((repeat refine WpM.seq ?_); refine WpM.condF (by (simp (maxSteps := 2000000) (disch := omega) [go_sem, -List.map_map, h2])) ?_)
        refine WpM.skip ?_
        ((repeat refine WpM.seq ?_); have z_ex := (And.intro @wrap_id True.intro); refine WpM.regPE [] [(1, _), (5, _), (12, _), (13, _), (14, _)] (by (refine s_o [(14, _)] rfl rfl rfl z_su rfl q_full z_fp z_ss ?_; refine s_o [(33, _)] rfl rfl rfl z_su rfl q_move z_fp z_ss ?_; exact wpS_nil ⟨rfl, rfl⟩)) z_su ?_; clear z_ex)
        exact round_end (x' := i + 1) (le_cut (n0 := n0) (l' := [(nr, some (.row 1 ys))]) hH (by (simp (maxSteps := 2000000) (disch := omega) [go_sem, -List.map_map]); omega) (Nat.le_refl _) (by (simp (maxSteps := 2000000) (disch := omega) [go_sem, -List.map_map]))) (Sub.le z_su) ⟨by omega, _, nr, ys, hnr, by show nr < nx + _; omega, no hp, rfl, rfl⟩ (by omega)
      · by_cases h3 : 0 < wl.length
        · have hp : writesB h key i = true := by rw [hwb]; simp [h2]; omega
          have hys' : ys ++ [V.d (.int .i64 i)] = intV (writersL h key (i + 1)) := by rw [hstep, hp, hys]; simp [intV]
          have h3' : (0 : Int) < wl.length := by omega
          have h3'' : ¬ wl = [] := by rintro rfl; simp at h3
          ((repeat refine WpM.seq ?_); have z_ex := (And.intro @h2 (And.intro @ints.eq_1 (And.intro @h3' (And.intro @h3'' True.intro)))); refine WpM.regPE [] [(1, _), (5, _), (6, _), (12, _), (13, _), (14, _), (28, _)] (by (refine s_o [(7, _)] rfl rfl rfl z_su rfl q_fieldAddr z_fp z_ss ?_; refine s_o [(19, _)] rfl rfl rfl z_su rfl q_load z_fp z_ss ?_; refine s_o [(20, _)] rfl rfl rfl z_su rfl q_full z_fp z_ss ?_; refine s_o [(21, _)] rfl rfl rfl z_su rfl q_move z_fp z_ss ?_; refine s_wit ?_; intro z_g; (first | refine s_skip rfl z_g z_fp ?_ | (refine s_o [(7, _)] rfl z_g rfl z_su rfl q_load z_fp z_ss ?_)); clear z_g; refine s_wit ?_; intro z_g; (first | refine s_skip rfl z_g z_fp ?_ | (refine s_o [(1, _)] rfl z_g rfl z_su rfl q_move z_fp z_ss ?_)); clear z_g; refine s_wit ?_; intro z_g; (first | refine s_skip rfl z_g z_fp ?_ | (refine s_pure (callOf_eq rfl rfl rfl (mlk_tmp z_lk (mlk_tmp z_lk mlk_nil))) (hwr) rfl z_g z_ip z_fp ?_)); clear z_g; refine s_wit ?_; intro z_g; (first | refine s_skip rfl z_g z_fp ?_ | (refine s_o [(25, _)] rfl z_g rfl z_su rfl q_full z_fp z_ss ?_)); clear z_g; refine s_wit ?_; intro z_g; (first | refine s_skip rfl z_g z_fp ?_ | (refine s_o [(26, _)] rfl z_g rfl z_su rfl q_full z_fp z_ss ?_)); clear z_g; refine s_o [(22, _), (27, _)] rfl rfl rfl z_su rfl q_move z_fp z_ss ?_; exact wpS_nil ⟨rfl, rfl⟩)) z_su ?_; clear z_ex)
          ((repeat refine WpM.seq ?_); refine WpM.condT (by (simp (maxSteps := 2000000) (disch := omega) [go_sem, -List.map_map, h2, h3, h3', h3''])) ?_)
          ((repeat refine WpM.seq ?_); have z_ex := True.intro; refine WpM.regPE [] [(1, _), (5, _), (12, _), (13, _), (14, _)] (by (refine s_o [(5, _)] rfl rfl rfl z_su rfl q_move z_fp z_ss ?_; refine s_o [(6, _)] rfl rfl rfl z_su rfl q_move z_fp z_ss ?_; refine s_o [(30, _)] rfl rfl rfl z_su rfl q_full z_fp z_ss ?_; refine s_o [(29, _), (31, _)] rfl rfl rfl z_su rfl q_full z_fp z_ss ?_; refine s_o [(32, _)] rfl rfl rfl z_su rfl q_move z_fp z_ss ?_; exact wpS_nil ⟨rfl, rfl⟩)) z_su ?_; clear z_ex)
          ((repeat refine WpM.seq ?_); have z_ex := (And.intro @wrap_id True.intro); refine WpM.regPE [] [(1, _), (5, _), (12, _), (13, _), (14, _)] (by (refine s_o [(14, _)] rfl rfl rfl z_su rfl q_full z_fp z_ss ?_; refine s_o [(33, _)] rfl rfl rfl z_su rfl q_move z_fp z_ss ?_; exact wpS_nil ⟨rfl, rfl⟩)) z_su ?_; clear z_ex)
          exact round_end (x' := i + 1) (le_cut (n0 := n0) (l' := [(nx + 19, some (.row 1 (ys ++ [V.d (.int .i64 i)])))]) hH (by (simp (maxSteps := 2000000) (disch := omega) [go_sem, -List.map_map]); omega) (Nat.le_refl _) (by (simp (maxSteps := 2000000) (disch := omega) [go_sem, -List.map_map]))) (frLe_frOf (by (simp (maxSteps := 2000000) (disch := omega) [go_sem, -List.map_map, wrap_id]))) ⟨by omega, nx + 23, nx + 19, _, by omega, by omega, hys', rfl, by (simp (maxSteps := 2000000) (disch := omega) [go_sem, -List.map_map])⟩ (by omega)
        · have h3' : wl.length = 0 := by omega
          have h3'' : wl = [] := List.eq_nil_of_length_eq_zero h3'
          have hp : writesB h key i = false := by rw [hwb, h3'']; simp
          ((repeat refine WpM.seq ?_); have z_ex := (And.intro @h2 (And.intro @ints.eq_1 (And.intro @h3' (And.intro @h3'' True.intro)))); refine WpM.regPE [] [(1, _), (5, _), (6, _), (12, _), (13, _), (14, _), (28, _)] (by (refine s_o [(7, _)] rfl rfl rfl z_su rfl q_fieldAddr z_fp z_ss ?_; refine s_o [(19, _)] rfl rfl rfl z_su rfl q_load z_fp z_ss ?_; refine s_o [(20, _)] rfl rfl rfl z_su rfl q_full z_fp z_ss ?_; refine s_o [(21, _)] rfl rfl rfl z_su rfl q_move z_fp z_ss ?_; refine s_wit ?_; intro z_g; (first | refine s_skip rfl z_g z_fp ?_ | (refine s_o [(7, _)] rfl z_g rfl z_su rfl q_load z_fp z_ss ?_)); clear z_g; refine s_wit ?_; intro z_g; (first | refine s_skip rfl z_g z_fp ?_ | (refine s_o [(1, _)] rfl z_g rfl z_su rfl q_move z_fp z_ss ?_)); clear z_g; refine s_wit ?_; intro z_g; (first | refine s_skip rfl z_g z_fp ?_ | (refine s_pure (callOf_eq rfl rfl rfl (mlk_tmp z_lk (mlk_tmp z_lk mlk_nil))) (hwr) rfl z_g z_ip z_fp ?_)); clear z_g; refine s_wit ?_; intro z_g; (first | refine s_skip rfl z_g z_fp ?_ | (refine s_o [(25, _)] rfl z_g rfl z_su rfl q_full z_fp z_ss ?_)); clear z_g; refine s_wit ?_; intro z_g; (first | refine s_skip rfl z_g z_fp ?_ | (refine s_o [(26, _)] rfl z_g rfl z_su rfl q_full z_fp z_ss ?_)); clear z_g; refine s_o [(22, _), (27, _)] rfl rfl rfl z_su rfl q_move z_fp z_ss ?_; exact wpS_nil ⟨rfl, rfl⟩)) z_su ?_; clear z_ex)
          ((repeat refine WpM.seq ?_); refine WpM.condF (by (simp (maxSteps := 2000000) (disch := omega) [go_sem, -List.map_map, h2, h3', h3''])) ?_)
          refine WpM.skip ?_
          ((repeat refine WpM.seq ?_); have z_ex := (And.intro @wrap_id True.intro); refine WpM.regPE [] [(1, _), (5, _), (12, _), (13, _), (14, _)] (by (refine s_o [(14, _)] rfl rfl rfl z_su rfl q_full z_fp z_ss ?_; refine s_o [(33, _)] rfl rfl rfl z_su rfl q_move z_fp z_ss ?_; exact wpS_nil ⟨rfl, rfl⟩)) z_su ?_; clear z_ex)
          exact round_end (x' := i + 1) (le_cut (n0 := n0) (l' := [(nr, some (.row 1 ys))]) hH (by (simp (maxSteps := 2000000) (disch := omega) [go_sem, -List.map_map]); omega) (Nat.le_refl _) (by (simp (maxSteps := 2000000) (disch := omega) [go_sem, -List.map_map]))) (Sub.le z_su) ⟨by omega, _, nr, ys, hnr, by show nr < nx + _; omega, no hp, rfl, rfl⟩ (by omega)
    · ((repeat refine WpM.seq ?_); refine WpM.condF (by (simp (maxSteps := 2000000) (disch := omega) [go_sem, -List.map_map, hit])) ?_)
      (refine WpM.exit ?_; (repeat (with_reducible (first | refine thenM_exit ?_ | refine blockM_eq ?_ | refine blockM_ne (by decide) ?_))))
      obtain rfl : i = h.txns.length := by omega
      ((repeat refine WpM.seq ?_); have z_ex := True.intro; refine WpM.regPE [] [(4, _)] (by (refine s_o [(5, _)] rfl rfl rfl z_su rfl q_move z_fp z_ss ?_; refine s_o [(34, _)] rfl rfl rfl z_su rfl q_move z_fp z_ss ?_; exact wpS_nil ⟨rfl, rfl⟩)) z_su ?_; clear z_ex)
      refine WpM.ret ?_
      refine ⟨.inr rfl, Upd.freeze 4 (nm := nr) (sz := 1) (o := 0) (m := ys.length) (xs := ys) ((writersL h key h.txns.length).map (D.int .i64)) (by (simp (maxSteps := 2000000) (disch := omega) [go_sem, -List.map_map])) (by (simp (maxSteps := 2000000) (disch := omega) [go_sem, -List.map_map])) (by rw [List.drop_zero, List.take_length, hys, intV, List.map_map]; rfl) (by rw [hys, intV]; simp) (Upd.done ⟨_, (by (simp (maxSteps := 2000000) (disch := omega) [go_sem, -List.map_map, resV, resVs, resV1, fset, ints])), rfl, fun m k _ hk => ?_⟩)⟩
      have := hH _ _ hk
      (simp (maxSteps := 2000000) (disch := omega) [go_sem, -List.map_map, hk])
end Go.Proofs.Ytjjmedgibcffhaa
