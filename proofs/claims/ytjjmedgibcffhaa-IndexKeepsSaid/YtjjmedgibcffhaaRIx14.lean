/- assizeref05.Check. -/
import Derived.Test.YtjjmedgibcffhaaROp2
import Derived.Test.YtjjmedgibcffhaaRIx12
import Derived.Test.YtjjmedgibcffhaaRIx7
namespace Go.Proofs.Ytjjmedgibcffhaa
open Go.RowKit M
set_option linter.unusedSimpArgs false
set_option linter.unusedVariables false
def histB' (h : HistD) : Blk := .box [.d (strs h.keys), .d (.sl (h.txns.map encTxn))]
theorem errno_f' : errnoOf false = 1 := rfl
theorem errno_t' : errnoOf true = 0 := rfl
theorem book_new {G : Nat → Option Blk} {L k1 k2 k3 k4 k5 : Nat} {O : Nat → Prop} (hL : G L = some (.box [.ms k1 1 0 0, .ms k2 1 0 0, .ms k3 1 0 0, .ms k4 1 0 0, .ms k5 1 0 0]))
    (h1 : G k1 = some (.row 1 [])) (h2 : G k2 = some (.row 1 [])) (h3 : G k3 = some (.row 1 [])) (h4 : G k4 = some (.row 1 [])) (h5 : G k5 = some (.row 1 []))
    (hne : k1 ≠ k2 ∧ k1 ≠ k3 ∧ k1 ≠ k4 ∧ k1 ≠ k5 ∧ k2 ≠ k3 ∧ k2 ≠ k4 ∧ k2 ≠ k5 ∧ k3 ≠ k4 ∧ k3 ≠ k5 ∧ k4 ≠ k5) (o : O L ∧ O k1 ∧ O k2 ∧ O k3 ∧ O k4 ∧ O k5) : BookAt G L Bk.empty O :=
  ⟨k1, k2, k3, k4, k5, [], fun _ => 0, hL, h1, h2, h3, h4, h5, rfl, fun k hk => by simp at hk, fun k hk => absurd (by simp [Bk.empty]) hk, fun k k' hk => absurd (by simp [Bk.empty]) hk, o.1, o.2.1, o.2.2.1, o.2.2.2.1, o.2.2.2.2.1, o.2.2.2.2.2, hne⟩
theorem check45_one {keys : List ByteArray} (hk : SlOk (fun s => s.size ≤ 140737488351232) 16 keys) {t : TxnD} (ht : TxnOk t) (hl : t.ops.length ≤ 16) : PureC Try.prog 45 [.d (evs [evOf keys t])] (.d (.int .i64 (if eventOk (evOf keys t) then 0 else 1))) := by
  have := check45 [evOf keys t] (evOf_ok hk ht (by simp only [evOf, List.length_map]; have := (List.takeWhile_sublist (okKey keys.length) (l := t.ops)).length_le; omega))
  rw [listOk_one] at this
  exact this
set_option maxHeartbeats 8000000 in
theorem check33 (h : HistD) (hh : HistOk h) : PureC Try.prog 33 [.d (encHist h)] (.d (.int .i64 (errnoOf (checkB h)))) := by
  intro S
  refine CallM.pure' (by rfl) (CallM.start (n := 111) Try.func33 rfl rfl (by simp) (by simp only [argL, Nat.reduceAdd] <;> rfl) ?_)
  intro hH
  obtain ⟨H, hHe⟩ : ∃ H, H = S.get := ⟨_, rfl⟩
  obtain ⟨n0, hne⟩ : ∃ n0, n0 = S.next := ⟨_, rfl⟩
  rw [← hHe, ← hne] at hH ⊢
  have hb := hh.b
  have hb1 := hb.keys
  have hb2 := hb.len
  have hnames := names55 h.keys (by omega)
  obtain ⟨nm, hnm⟩ : ∃ nm, nm = namesB h.keys := ⟨_, rfl⟩
  rw [← hnm] at hnames
  ((repeat refine WpM.seq ?_); have z_ex := (And.intro @encHist.eq_1 True.intro); refine WpM.regPE [] [(1, _)] (by (refine s_b [(0, _)] ?_; refine s_m [] ?_; exact wpS_nil ⟨rfl, rfl⟩)) z_su ?_; clear z_ex)
  cases nm with
  | false =>
    have hr : checkB h = false := by rw [checkB, ← hnm]; rfl
    rw [hr, errno_f']
    ((repeat refine WpM.seq ?_); have z_ex := True.intro; refine WpM.regPE [] [(1, _), (19, _)] (by (refine s_f [(1, _)] ?_; refine s_l [(10, _)] ?_; refine s_pure (callOf_eq rfl rfl rfl (mlk_tmp z_lk mlk_nil)) (hnames) rfl rfl z_ip z_fp ?_; refine s_u [(12, _)] ?_; refine s_m [(13, _)] ?_; refine s_wit ?_; intro z_g; (first | refine s_skip rfl z_g z_fp ?_ | (refine s_f [(1, _)] ?_ (hg := z_g))); clear z_g; refine s_wit ?_; intro z_g; (first | refine s_skip rfl z_g z_fp ?_ | (refine s_l [(15, _)] ?_ (hg := z_g))); clear z_g; refine s_wit ?_; intro z_g; (first | refine s_skip rfl z_g z_fp ?_ | (refine s_q [(16, _)] ?_ (hg := z_g))); clear z_g; refine s_wit ?_; intro z_g; (first | refine s_skip rfl z_g z_fp ?_ | (refine s_q [(17, _)] ?_ (hg := z_g))); clear z_g; refine s_m [(14, _), (18, _)] ?_; exact wpS_nil ⟨rfl, rfl⟩)) z_su ?_; clear z_ex)
    ((repeat refine WpM.seq ?_); refine WpM.condT (by (simp (maxSteps := 2000000) (disch := omega) [go_sem, -List.map_map])) ?_)
    ((repeat refine WpM.seq ?_); have z_ex := True.intro; refine WpM.regPE [] [(2, _)] (by (refine s_m [] ?_; exact wpS_nil ⟨rfl, rfl⟩)) z_su ?_; clear z_ex)
    refine WpM.ret ?_
    exact ⟨.inr rfl, Upd.done ⟨_, (by (simp (maxSteps := 2000000) (disch := omega) [go_sem, -List.map_map, resV, resVs, resV1])), rfl, fun m k _ hk => by have := hH _ _ hk; (simp (maxSteps := 2000000) (disch := omega) [go_sem, -List.map_map, hk])⟩⟩
  | true =>
  by_cases ht32 : 32 < h.txns.length
  · have hr : checkB h = false := by simp [checkB, Nat.not_le.2 ht32]
    rw [hr, errno_f']
    have ht32' : (32 : Int) < h.txns.length := by omega
    ((repeat refine WpM.seq ?_); have z_ex := (And.intro @ht32' True.intro); refine WpM.regPE [] [(1, _), (19, _)] (by (refine s_f [(1, _)] ?_; refine s_l [(10, _)] ?_; refine s_pure (callOf_eq rfl rfl rfl (mlk_tmp z_lk mlk_nil)) (hnames) rfl rfl z_ip z_fp ?_; refine s_u [(12, _)] ?_; refine s_m [(13, _)] ?_; refine s_wit ?_; intro z_g; (first | refine s_skip rfl z_g z_fp ?_ | (refine s_f [(1, _)] ?_ (hg := z_g))); clear z_g; refine s_wit ?_; intro z_g; (first | refine s_skip rfl z_g z_fp ?_ | (refine s_l [(15, _)] ?_ (hg := z_g))); clear z_g; refine s_wit ?_; intro z_g; (first | refine s_skip rfl z_g z_fp ?_ | (refine s_q [(16, _)] ?_ (hg := z_g))); clear z_g; refine s_wit ?_; intro z_g; (first | refine s_skip rfl z_g z_fp ?_ | (refine s_q [(17, _)] ?_ (hg := z_g))); clear z_g; refine s_m [(14, _), (18, _)] ?_; exact wpS_nil ⟨rfl, rfl⟩)) z_su ?_; clear z_ex)
    ((repeat refine WpM.seq ?_); refine WpM.condT (by (simp (maxSteps := 2000000) (disch := omega) [go_sem, -List.map_map, ht32'])) ?_)
    ((repeat refine WpM.seq ?_); have z_ex := True.intro; refine WpM.regPE [] [(2, _)] (by (refine s_m [] ?_; exact wpS_nil ⟨rfl, rfl⟩)) z_su ?_; clear z_ex)
    refine WpM.ret ?_
    exact ⟨.inr rfl, Upd.done ⟨_, (by (simp (maxSteps := 2000000) (disch := omega) [go_sem, -List.map_map, resV, resVs, resV1])), rfl, fun m k _ hk => by have := hH _ _ hk; (simp (maxSteps := 2000000) (disch := omega) [go_sem, -List.map_map, hk])⟩⟩
  have ht32' : ¬ (32 : Int) < h.txns.length := by omega
  have ht32'' : (h.txns.length : Int) ≤ 32 := by omega
  ((repeat refine WpM.seq ?_); have z_ex := (And.intro @ht32' (And.intro @ht32'' True.intro)); refine WpM.regPE [] [(1, _), (19, _)] (by (refine s_f [(1, _)] ?_; refine s_l [(10, _)] ?_; refine s_pure (callOf_eq rfl rfl rfl (mlk_tmp z_lk mlk_nil)) (hnames) rfl rfl z_ip z_fp ?_; refine s_u [(12, _)] ?_; refine s_m [(13, _)] ?_; refine s_wit ?_; intro z_g; (first | refine s_skip rfl z_g z_fp ?_ | (refine s_f [(1, _)] ?_ (hg := z_g))); clear z_g; refine s_wit ?_; intro z_g; (first | refine s_skip rfl z_g z_fp ?_ | (refine s_l [(15, _)] ?_ (hg := z_g))); clear z_g; refine s_wit ?_; intro z_g; (first | refine s_skip rfl z_g z_fp ?_ | (refine s_q [(16, _)] ?_ (hg := z_g))); clear z_g; refine s_wit ?_; intro z_g; (first | refine s_skip rfl z_g z_fp ?_ | (refine s_q [(17, _)] ?_ (hg := z_g))); clear z_g; refine s_m [(14, _), (18, _)] ?_; exact wpS_nil ⟨rfl, rfl⟩)) z_su ?_; clear z_ex)
  ((repeat refine WpM.seq ?_); refine WpM.condF (by (simp (maxSteps := 2000000) (disch := omega) [go_sem, -List.map_map, ht32', ht32''])) ?_)
  refine WpM.skip ?_
  ((repeat refine WpM.seq ?_); have z_ex := True.intro; refine WpM.regPE [] [(1, _), (3, _)] (by (refine s_g [] ?_; refine s_b [(20, _)] ?_; refine s_m [(21, _)] ?_; exact wpS_nil ⟨rfl, rfl⟩)) z_su ?_; clear z_ex)
  refine Upd.wp (Upd.ghostIn (n0 + 12) 0 1 (cs := [.nil, .nil, .nil, .nil, .nil]) (by (simp (maxSteps := 2000000) (disch := omega) [go_sem, -List.map_map])) (.inl rfl) (Upd.ghostIn (n0 + 12) 1 1 (cs := [.ms (n0 + 14) 1 0 0, .nil, .nil, .nil, .nil]) (by (simp (maxSteps := 2000000) (disch := omega) [go_sem, -List.map_map])) (.inl rfl) (Upd.ghostIn (n0 + 12) 2 1 (cs := [.ms (n0 + 14) 1 0 0, .ms (n0 + 15) 1 0 0, .nil, .nil, .nil]) (by (simp (maxSteps := 2000000) (disch := omega) [go_sem, -List.map_map])) (.inl rfl) (Upd.ghostIn (n0 + 12) 3 1 (cs := [.ms (n0 + 14) 1 0 0, .ms (n0 + 15) 1 0 0, .ms (n0 + 16) 1 0 0, .nil, .nil]) (by (simp (maxSteps := 2000000) (disch := omega) [go_sem, -List.map_map])) (.inl rfl) (Upd.ghostIn (n0 + 12) 4 1 (cs := [.ms (n0 + 14) 1 0 0, .ms (n0 + 15) 1 0 0, .ms (n0 + 16) 1 0 0, .ms (n0 + 17) 1 0 0, .nil]) (by (simp (maxSteps := 2000000) (disch := omega) [go_sem, -List.map_map])) (.inl rfl) (Upd.done ?_))))))
  refine WpM.less (St.Le.refl _) (frLe_frOf (l := [(1, .ptr n0 0), (3, .ptr (n0 + 12) 0)]) (by (simp (maxSteps := 2000000) (disch := omega) [go_sem, -List.map_map]))) ?_
  refine WpM.norm ?_
  intro nx1 G1 hnx1 hG1 hk1
  have hnx1 : nx1 = n0 + 19 := hnx1
  have hLed1 : BookAt G1 (n0 + 12) Bk.empty (fun m => n0 + 12 ≤ m ∧ m < n0 + 19) := by
    rw [hG1]
    exact book_new (k1 := n0 + 14) (k2 := n0 + 15) (k3 := n0 + 16) (k4 := n0 + 17) (k5 := n0 + 18) (by (simp (maxSteps := 2000000) (disch := omega) [go_sem, -List.map_map])) (by (simp (maxSteps := 2000000) (disch := omega) [go_sem, -List.map_map])) (by (simp (maxSteps := 2000000) (disch := omega) [go_sem, -List.map_map])) (by (simp (maxSteps := 2000000) (disch := omega) [go_sem, -List.map_map])) (by (simp (maxSteps := 2000000) (disch := omega) [go_sem, -List.map_map])) (by (simp (maxSteps := 2000000) (disch := omega) [go_sem, -List.map_map])) (by omega) (by omega)
  have hbx1 : G1 n0 = some (histB' h) := by rw [hG1]; (simp (maxSteps := 2000000) (disch := omega) [go_sem, -List.map_map, histB', strs])
  have hold1 : ∀ m k, H m = some k → G1 m = some k := fun m k hk => by
    have := hH _ _ hk
    rw [hG1]
    (simp (maxSteps := 2000000) (disch := omega) [go_sem, -List.map_map, hk])
  clear hG1 hk1
  subst hnx1
  obtain ⟨L, hL⟩ : ∃ L, L = n0 + 12 := ⟨_, rfl⟩
  rw [← hL] at hLed1 ⊢
  have hnL : n0 < L := by omega
  ((repeat refine WpM.seq ?_); have z_ex := True.intro; refine WpM.regPE [] [(1, _), (3, _), (4, _)] (by (refine s_m [] ?_; exact wpS_nil ⟨rfl, rfl⟩)) z_su ?_; clear z_ex)
  ((repeat refine WpM.seq ?_); refine WpM.block ?_)
  refine WpM.loop (fun (i : Nat) fr S => i ≤ h.txns.length ∧ ∃ nx G b O, S = ⟨nx, [], G⟩ ∧ checkSt h i = some b ∧ BookAt G L b O ∧ (∀ m, O m → n0 < m ∧ m < nx) ∧ n0 < nx ∧ G n0 = some (histB' h) ∧ (∀ m k, H m = some k → G m = some k) ∧ fr = frOf [(1, .ptr n0 0), (3, .ptr L 0), (4, .d (.int .i64 i))]) (fun i => h.txns.length - i) 0 (St.Le.refl _) (Sub.le z_su) ⟨by omega, _, G1, Bk.empty, _, rfl, rfl, hLed1, fun m hm => ⟨by omega, by omega⟩, by omega, hbx1, hold1, rfl⟩ ?_
  clear hLed1 hbx1 hold1 hL
  rintro i fr S' ⟨hi, nx2, G, b, O, rfl, hst, hLed, hO, hn2, hbx, hold, rfl⟩
  refine WpM.known fun hGk => ?_
  have hGk : ∀ m k, G m = some k → m < nx2 := hGk
  ((repeat refine WpM.seq ?_); have z_ex := (And.intro @hbx (And.intro @histB'.eq_1 True.intro)); refine WpM.regPE [] [(1, _), (3, _), (4, _), (26, _)] (by (refine s_m [(4, _)] ?_; refine s_f [(1, _)] ?_; refine s_l [(23, _)] ?_; refine s_q [(24, _)] ?_; refine s_q [(22, _), (25, _)] ?_; exact wpS_nil ⟨rfl, rfl⟩)) z_su ?_; clear z_ex)
  by_cases hit : i < h.txns.length
  · ((repeat refine WpM.seq ?_); refine WpM.condT (by (simp (maxSteps := 2000000) (disch := omega) [go_sem, -List.map_map, hit])) ?_)
    refine WpM.skip ?_
    ((repeat refine WpM.seq ?_); refine WpM.block ?_)
    obtain ⟨t, ht⟩ : ∃ t, t = h.txns[i] := ⟨_, rfl⟩
    have hget : (h.txns.map encTxn)[i]? = some (encTxn t) := by simp [hit, ht]
    have htok := hh.2.2 t (ht ▸ List.getElem_mem _)
    have hstep := stepT_get (b := b) hit
    have hplaced := placed56 h.txns (by omega) i hit
    rw [← ht] at hstep hplaced
    obtain ⟨ev, hev⟩ : ∃ ev, ev = evOf h.keys t := ⟨_, rfl⟩
    obtain ⟨pl, hpl⟩ : ∃ pl, pl = placedB (h.txns.take i) t := ⟨_, rfl⟩
    rw [← hev] at hstep
    rw [← hpl] at hplaced hstep
    ((repeat refine WpM.seq ?_); have z_ex := (And.intro @hbx (And.intro @histB'.eq_1 (And.intro @hget (And.intro @hit (And.intro @encTxn.eq_1 True.intro))))); refine WpM.regPE [] [(1, _), (3, _), (4, _), (5, _)] (by (refine s_f [(1, _)] ?_; refine s_l [(29, _)] ?_; refine s_m [(4, _)] ?_; refine s_q [(30, _), (31, _)] ?_; refine s_l [(32, _)] ?_; refine s_a [] ?_; refine s_s [(5, _), (33, _)] ?_; exact wpS_nil ⟨rfl, rfl⟩)) z_su ?_; clear z_ex)
    have badOk : evOkB h.keys t = false → checkB h = false := fun hb => checkB_bad hit hst (by rw [hstep, hb]; rfl)
    cases pl with
    | false =>
      rw [checkB_bad hit hst (by rw [hstep]; simp), errno_f']
      ((repeat refine WpM.seq ?_); have z_ex := (And.intro @hbx (And.intro @histB'.eq_1 True.intro)); refine WpM.regPE [] [(1, _), (3, _), (4, _), (5, _), (44, _)] (by (refine s_f [(1, _)] ?_; refine s_l [(34, _)] ?_; refine s_m [(4, _)] ?_; refine s_pure (callOf_eq rfl rfl rfl (mlk_tmp z_lk (mlk_tmp z_lk mlk_nil))) (hplaced) rfl rfl z_ip z_fp ?_; refine s_u [(37, _)] ?_; refine s_m [(38, _)] ?_; refine s_wit ?_; intro z_g; (first | refine s_skip rfl z_g z_fp ?_ | (refine s_f [(5, _)] ?_ (hg := z_g))); clear z_g; refine s_wit ?_; intro z_g; (first | refine s_skip rfl z_g z_fp ?_ | (refine s_l [(40, _)] ?_ (hg := z_g))); clear z_g; refine s_wit ?_; intro z_g; (first | refine s_skip rfl z_g z_fp ?_ | (refine s_q [(41, _)] ?_ (hg := z_g))); clear z_g; refine s_wit ?_; intro z_g; (first | refine s_skip rfl z_g z_fp ?_ | (refine s_q [(42, _)] ?_ (hg := z_g))); clear z_g; refine s_m [(39, _), (43, _)] ?_; exact wpS_nil ⟨rfl, rfl⟩)) z_su ?_; clear z_ex)
      ((repeat refine WpM.seq ?_); refine WpM.condT (by (simp (maxSteps := 2000000) (disch := omega) [go_sem, -List.map_map])) ?_)
      ((repeat refine WpM.seq ?_); have z_ex := True.intro; refine WpM.regPE [] [(2, _)] (by (refine s_m [] ?_; exact wpS_nil ⟨rfl, rfl⟩)) z_su ?_; clear z_ex)
      refine WpM.ret ?_
      exact ⟨.inr rfl, Upd.done ⟨_, (by (simp (maxSteps := 2000000) (disch := omega) [go_sem, -List.map_map, resV, resVs, resV1])), rfl, fun m k _ hk => by have h9 := hH _ _ hk; have h8 := hold m k hk; have h7 := hGk m k h8; (simp (maxSteps := 2000000) (disch := omega) [go_sem, -List.map_map, h8])⟩⟩
    | true =>
      by_cases h16 : 16 < t.ops.length
      · rw [badOk (evOkB_long h16), errno_f']
        have h16' : (16 : Int) < t.ops.length := by omega
        ((repeat refine WpM.seq ?_); have z_ex := (And.intro @hbx (And.intro @histB'.eq_1 (And.intro @h16' True.intro))); refine WpM.regPE [] [(1, _), (3, _), (4, _), (5, _), (44, _)] (by (refine s_f [(1, _)] ?_; refine s_l [(34, _)] ?_; refine s_m [(4, _)] ?_; refine s_pure (callOf_eq rfl rfl rfl (mlk_tmp z_lk (mlk_tmp z_lk mlk_nil))) (hplaced) rfl rfl z_ip z_fp ?_; refine s_u [(37, _)] ?_; refine s_m [(38, _)] ?_; refine s_wit ?_; intro z_g; (first | refine s_skip rfl z_g z_fp ?_ | (refine s_f [(5, _)] ?_ (hg := z_g))); clear z_g; refine s_wit ?_; intro z_g; (first | refine s_skip rfl z_g z_fp ?_ | (refine s_l [(40, _)] ?_ (hg := z_g))); clear z_g; refine s_wit ?_; intro z_g; (first | refine s_skip rfl z_g z_fp ?_ | (refine s_q [(41, _)] ?_ (hg := z_g))); clear z_g; refine s_wit ?_; intro z_g; (first | refine s_skip rfl z_g z_fp ?_ | (refine s_q [(42, _)] ?_ (hg := z_g))); clear z_g; refine s_m [(39, _), (43, _)] ?_; exact wpS_nil ⟨rfl, rfl⟩)) z_su ?_; clear z_ex)
        ((repeat refine WpM.seq ?_); refine WpM.condT (by (simp (maxSteps := 2000000) (disch := omega) [go_sem, -List.map_map, h16'])) ?_)
        ((repeat refine WpM.seq ?_); have z_ex := True.intro; refine WpM.regPE [] [(2, _)] (by (refine s_m [] ?_; exact wpS_nil ⟨rfl, rfl⟩)) z_su ?_; clear z_ex)
        refine WpM.ret ?_
        exact ⟨.inr rfl, Upd.done ⟨_, (by (simp (maxSteps := 2000000) (disch := omega) [go_sem, -List.map_map, resV, resVs, resV1])), rfl, fun m k _ hk => by have h9 := hH _ _ hk; have h8 := hold m k hk; have h7 := hGk m k h8; (simp (maxSteps := 2000000) (disch := omega) [go_sem, -List.map_map, h8])⟩⟩
      · have h16' : ¬ (16 : Int) < t.ops.length := by omega
        have h16'' : (t.ops.length : Int) ≤ 16 := by omega
        have h16n : t.ops.length ≤ 16 := by omega
        ((repeat refine WpM.seq ?_); have z_ex := (And.intro @hbx (And.intro @histB'.eq_1 (And.intro @h16' (And.intro @h16'' True.intro)))); refine WpM.regPE [] [(1, _), (3, _), (4, _), (5, _), (44, _)] (by (refine s_f [(1, _)] ?_; refine s_l [(34, _)] ?_; refine s_m [(4, _)] ?_; refine s_pure (callOf_eq rfl rfl rfl (mlk_tmp z_lk (mlk_tmp z_lk mlk_nil))) (hplaced) rfl rfl z_ip z_fp ?_; refine s_u [(37, _)] ?_; refine s_m [(38, _)] ?_; refine s_wit ?_; intro z_g; (first | refine s_skip rfl z_g z_fp ?_ | (refine s_f [(5, _)] ?_ (hg := z_g))); clear z_g; refine s_wit ?_; intro z_g; (first | refine s_skip rfl z_g z_fp ?_ | (refine s_l [(40, _)] ?_ (hg := z_g))); clear z_g; refine s_wit ?_; intro z_g; (first | refine s_skip rfl z_g z_fp ?_ | (refine s_q [(41, _)] ?_ (hg := z_g))); clear z_g; refine s_wit ?_; intro z_g; (first | refine s_skip rfl z_g z_fp ?_ | (refine s_q [(42, _)] ?_ (hg := z_g))); clear z_g; refine s_m [(39, _), (43, _)] ?_; exact wpS_nil ⟨rfl, rfl⟩)) z_su ?_; clear z_ex)
        ((repeat refine WpM.seq ?_); refine WpM.condF (by (simp (maxSteps := 2000000) (disch := omega) [go_sem, -List.map_map, h16', h16''])) ?_)
        refine WpM.skip ?_
        ((repeat refine WpM.seq ?_); have z_ex := True.intro; refine WpM.regPE [] [(1, _), (3, _), (4, _), (5, _), (6, _)] (by (refine s_f [(5, _)] ?_; refine s_l [(45, _)] ?_; refine s_g [(46, _)] ?_; refine s_a [] ?_; refine s_s [(6, _), (47, _)] ?_; exact wpS_nil ⟨rfl, rfl⟩)) z_su ?_; clear z_ex)
        refine Upd.wp (Upd.ghostIn (nx2 + 25) 2 5 (cs := [.d (.int .i64 0), .d (.int .i64 t.status), .nil]) (by (simp (maxSteps := 2000000) (disch := omega) [go_sem, -List.map_map])) (.inl (by rfl)) (Upd.done ?_))
        refine WpM.less (St.Le.refl _) (frLe_frOf (l := [(1, .ptr n0 0), (3, .ptr L 0), (4, .d (.int .i64 i)), (5, .ptr (nx2 + 10) 0), (6, .ptr (nx2 + 25) 0)]) (by (simp (maxSteps := 2000000) (disch := omega) [go_sem, -List.map_map]))) ?_
        ((repeat refine WpM.seq ?_); have z_ex := True.intro; refine WpM.regPE [] [(1, _), (3, _), (4, _), (5, _), (6, _), (7, _)] (by (refine s_m [] ?_; exact wpS_nil ⟨rfl, rfl⟩)) z_su ?_; clear z_ex)
        ((repeat refine WpM.seq ?_); refine WpM.block ?_)
        refine WpM.loop (fun (j : Nat) fr S => j ≤ t.ops.length ∧ (∀ i (h' : i < t.ops.length), i < j → okKey h.keys.length t.ops[i] = true) ∧ ∃ nx nr ys, nx2 + 26 ≤ nr ∧ nr < nx ∧ ys = ((t.ops.take j).map fun o => V.d (encCall (callOf' h.keys o))) ∧ fr = frOf [(1, .ptr n0 0), (3, .ptr L 0), (4, .d (.int .i64 i)), (5, .ptr (nx2 + 10) 0), (6, .ptr (nx2 + 25) 0), (7, .d (.int .i64 j))] ∧ S = ⟨nx, [(nx2 + 10, some (.box [.d (.int .i64 t.proc), .d (.int .i64 t.status), .d (.int .i64 t.frm), .d (.int .i64 t.to), .d (.sl (t.ops.map encOp))])), (nx2 + 25, some (.box [.d (.int .i64 0), .d (.int .i64 t.status), .ms nr 5 0 ys.length])), (nr, some (.row 5 ys))], G⟩) (fun j => t.ops.length - j) 0 (St.Le.refl _) (Sub.le z_su) ⟨by omega, by simp, nx2 + 29, nx2 + 27, [], by omega, by omega, by simp, rfl, by (simp (maxSteps := 2000000) (disch := omega) [go_sem, -List.map_map])⟩ ?_
        rintro j fr S' ⟨hj, hall, nx, nr, ys, hnr, hnx, hys, rfl, rfl⟩
        have hyl : ys.length = j := by rw [hys]; simp; omega
        ((repeat refine WpM.seq ?_); have z_ex := True.intro; refine WpM.regPE [] [(1, _), (3, _), (4, _), (5, _), (6, _), (7, _), (52, _)] (by (refine s_m [(7, _)] ?_; refine s_f [(5, _)] ?_; refine s_l [(49, _)] ?_; refine s_q [(50, _)] ?_; refine s_q [(48, _), (51, _)] ?_; exact wpS_nil ⟨rfl, rfl⟩)) z_su ?_; clear z_ex)
        by_cases hlt : j < t.ops.length
        · ((repeat refine WpM.seq ?_); refine WpM.condT (by (simp (maxSteps := 2000000) (disch := omega) [go_sem, -List.map_map, hlt])) ?_)
          refine WpM.skip ?_
          ((repeat refine WpM.seq ?_); refine WpM.block ?_)
          obtain ⟨o, ho⟩ : ∃ o, o = t.ops[j] := ⟨_, rfl⟩
          have hgeto : (t.ops.map encOp)[j]? = some (encOp o) := by simp [hlt, ho]
          obtain ⟨ok1, ok2, ok3, ok4⟩ := htok.2.2.2.2.2 o (ho ▸ List.getElem_mem _)
          ((repeat refine WpM.seq ?_); have z_ex := (And.intro @hgeto (And.intro @encOp.eq_1 True.intro)); refine WpM.regPE [] [(1, _), (3, _), (4, _), (5, _), (6, _), (7, _), (8, _)] (by (refine s_f [(5, _)] ?_; refine s_l [(55, _)] ?_; refine s_m [(7, _)] ?_; refine s_q [(56, _), (57, _)] ?_; refine s_l [(58, _)] ?_; refine s_a [] ?_; refine s_s [(8, _), (59, _)] ?_; exact wpS_nil ⟨rfl, rfl⟩)) z_su ?_; clear z_ex)
          by_cases hk : okKey h.keys.length o = true
          · obtain ⟨hk1, hk2⟩ : 0 ≤ o.key ∧ o.key < h.keys.length := by simpa [okKey] using hk
            obtain ⟨kn, hkn⟩ : ∃ kn : Nat, o.key = kn := ⟨o.key.toNat, by omega⟩
            have hkl : kn < h.keys.length := by omega
            have hkx : h.keys[kn]? = some (h.keys.getD kn ByteArray.empty) := by simp [hkl]
            have hcall : callOf' h.keys o = ⟨o.kind, h.keys.getD kn ByteArray.empty, o.arg, o.got, o.vals⟩ := by simp [callOf', hkn]
            obtain ⟨key, hkey⟩ : ∃ key, key = h.keys.getD kn ByteArray.empty := ⟨_, rfl⟩
            have hkg : (h.keys.map D.str)[kn]? = some (.str key) := by rw [List.getElem?_map, hkx, hkey]; rfl
            rw [← hkey] at hcall
            have hn1 : ¬ ((kn : Int) < 0) := by omega
            have hn2 : ¬ ((h.keys.length : Int) ≤ kn) := by omega
            ((repeat refine WpM.seq ?_); have z_ex := (And.intro @hbx (And.intro @histB'.eq_1 (And.intro @hkn (And.intro @hn1 (And.intro @hn2 (And.intro @strs.eq_1 (And.intro @hkl True.intro))))))); refine WpM.regPE [] [(1, _), (3, _), (4, _), (5, _), (6, _), (7, _), (8, _), (70, _)] (by (refine s_f [(8, _)] ?_; refine s_l [(60, _)] ?_; refine s_q [(61, _)] ?_; refine s_m [(62, _)] ?_; refine s_wit ?_; intro z_g; (first | refine s_skip rfl z_g z_fp ?_ | (refine s_f [(8, _)] ?_ (hg := z_g))); clear z_g; refine s_wit ?_; intro z_g; (first | refine s_skip rfl z_g z_fp ?_ | (refine s_l [(64, _)] ?_ (hg := z_g))); clear z_g; refine s_wit ?_; intro z_g; (first | refine s_skip rfl z_g z_fp ?_ | (refine s_f [(1, _)] ?_ (hg := z_g))); clear z_g; refine s_wit ?_; intro z_g; (first | refine s_skip rfl z_g z_fp ?_ | (refine s_l [(66, _)] ?_ (hg := z_g))); clear z_g; refine s_wit ?_; intro z_g; (first | refine s_skip rfl z_g z_fp ?_ | (refine s_q [(67, _)] ?_ (hg := z_g))); clear z_g; refine s_wit ?_; intro z_g; (first | refine s_skip rfl z_g z_fp ?_ | (refine s_q [(65, _), (68, _)] ?_ (hg := z_g))); clear z_g; refine s_m [(63, _), (69, _)] ?_; exact wpS_nil ⟨rfl, rfl⟩)) z_su ?_; clear z_ex)
            ((repeat refine WpM.seq ?_); refine WpM.condF (by (simp (maxSteps := 2000000) (disch := omega) [go_sem, -List.map_map, hn1, hn2])) ?_)
            refine WpM.skip ?_
            have hys' : ys ++ [V.d (encCall (callOf' h.keys o))] = (t.ops.take (j + 1)).map (fun o => V.d (encCall (callOf' h.keys o))) := by rw [hys, List.take_succ_eq_append_getElem hlt, ← ho]; simp
            rw [hcall] at hys'
            have hall' : ∀ i (h' : i < t.ops.length), i < j + 1 → okKey h.keys.length t.ops[i] = true := fun i h' hi => by
              rcases Nat.lt_or_ge i j with h2 | h2
              · exact hall i h' h2
              · obtain rfl : i = j := by omega
                rw [← ho]; exact hk
            ((repeat refine WpM.seq ?_); have z_ex := (And.intro @hbx (And.intro @histB'.eq_1 (And.intro @hkn (And.intro @hn1 (And.intro @hn2 (And.intro @strs.eq_1 (And.intro @hkl (And.intro @hkg True.intro)))))))); refine WpM.drwPE [] [(1, _), (3, _), (4, _), (5, _), (6, _), (7, _)] mixed (by kernel_rfl) (by kernel_rfl) [(1, 17)] (by kernel_rfl) (by (refine d_f [(6, _)] ?_; refine d_l [(71, _)] ?_; refine d_f [(8, _)] ?_; refine d_l [(73, _)] ?_; refine d_f [(1, _)] ?_; refine d_l [(75, _)] ?_; refine d_f [(8, _)] ?_; refine d_l [(77, _)] ?_; refine d_q [(76, _), (78, _)] ?_; refine d_l [(79, _)] ?_; refine d_f [(8, _)] ?_; refine d_l [(81, _)] ?_; refine d_f [(8, _)] ?_; refine d_l [(83, _)] ?_; refine d_f [(8, _)] ?_; refine d_l [(85, _)] ?_; refine d_g [(74, _), (80, _), (82, _), (84, _), (86, _)] ?_; refine d_q [(87, _)] ?_; refine d_q [(72, _), (88, _)] ?_; refine d_f [(6, _)] ?_; refine d_s [(89, _), (90, _)] ?_; exact d_end z_mt z_sn)) z_su ?_; clear z_ex)
            ((repeat refine WpM.seq ?_); have z_ex := (And.intro @wrap_id True.intro); refine WpM.regPE [] [(1, _), (3, _), (4, _), (5, _), (6, _), (7, _)] (by (refine s_m [(7, _)] ?_; refine s_q [(53, _)] ?_; refine s_m [(54, _)] ?_; exact wpS_nil ⟨rfl, rfl⟩)) z_su ?_; clear z_ex)
            exact round_end (x' := j + 1) (le_cut (n0 := nx2) (l' := [(nx2 + 10, some (.box [.d (.int .i64 t.proc), .d (.int .i64 t.status), .d (.int .i64 t.frm), .d (.int .i64 t.to), .d (.sl (t.ops.map encOp))])), (nx2 + 25, some (.box [.d (.int .i64 0), .d (.int .i64 t.status), .ms (nx + 41) 5 0 (ys.length + 1)])), (nx + 41, some (.row 5 (ys ++ [V.d (encCall ⟨o.kind, key, o.arg, o.got, o.vals⟩)])))]) hGk (by (simp (maxSteps := 2000000) (disch := omega) [go_sem, -List.map_map]); omega) (Nat.le_refl _) (by (simp (maxSteps := 2000000) (disch := omega) [go_sem, -List.map_map, encCall]))) (Sub.le z_su) ⟨by omega, hall', nx + 47, nx + 41, _, by omega, by omega, hys', rfl, by (simp (maxSteps := 2000000) (disch := omega) [go_sem, -List.map_map])⟩ (by omega)
          · have hk' : okKey h.keys.length o = false := by simpa using hk
            rw [badOk (evOkB_key hlt (ho ▸ hk')), errno_f']
            have hcase : o.key < 0 ∨ ¬ o.key < 0 ∧ (h.keys.length : Int) ≤ o.key := by
              have : ¬ (0 ≤ o.key ∧ o.key < h.keys.length) := by simpa [okKey] using hk'
              omega
            rcases hcase with hc | ⟨hc1, hc2⟩
            · ((repeat refine WpM.seq ?_); have z_ex := (And.intro @hc True.intro); refine WpM.regPE [] [(1, _), (3, _), (4, _), (5, _), (6, _), (7, _), (8, _), (70, _)] (by (refine s_f [(8, _)] ?_; refine s_l [(60, _)] ?_; refine s_q [(61, _)] ?_; refine s_m [(62, _)] ?_; refine s_wit ?_; intro z_g; (first | refine s_skip rfl z_g z_fp ?_ | (refine s_f [(8, _)] ?_ (hg := z_g))); clear z_g; refine s_wit ?_; intro z_g; (first | refine s_skip rfl z_g z_fp ?_ | (refine s_l [(64, _)] ?_ (hg := z_g))); clear z_g; refine s_wit ?_; intro z_g; (first | refine s_skip rfl z_g z_fp ?_ | (refine s_f [(1, _)] ?_ (hg := z_g))); clear z_g; refine s_wit ?_; intro z_g; (first | refine s_skip rfl z_g z_fp ?_ | (refine s_l [(66, _)] ?_ (hg := z_g))); clear z_g; refine s_wit ?_; intro z_g; (first | refine s_skip rfl z_g z_fp ?_ | (refine s_q [(67, _)] ?_ (hg := z_g))); clear z_g; refine s_wit ?_; intro z_g; (first | refine s_skip rfl z_g z_fp ?_ | (refine s_q [(65, _), (68, _)] ?_ (hg := z_g))); clear z_g; refine s_m [(63, _), (69, _)] ?_; exact wpS_nil ⟨rfl, rfl⟩)) z_su ?_; clear z_ex)
              ((repeat refine WpM.seq ?_); refine WpM.condT (by (simp (maxSteps := 2000000) (disch := omega) [go_sem, -List.map_map, hc])) ?_)
              ((repeat refine WpM.seq ?_); have z_ex := True.intro; refine WpM.regPE [] [(2, _)] (by (refine s_m [] ?_; exact wpS_nil ⟨rfl, rfl⟩)) z_su ?_; clear z_ex)
              refine WpM.ret ?_
              exact ⟨.inr rfl, Upd.done ⟨_, (by (simp (maxSteps := 2000000) (disch := omega) [go_sem, -List.map_map, resV, resVs, resV1])), rfl, fun m k _ hk => by have h9 := hH _ _ hk; have h8 := hold m k hk; have h7 := hGk m k h8; (simp (maxSteps := 2000000) (disch := omega) [go_sem, -List.map_map, h8])⟩⟩
            · ((repeat refine WpM.seq ?_); have z_ex := (And.intro @hbx (And.intro @histB'.eq_1 (And.intro @hc1 (And.intro @hc2 (And.intro @strs.eq_1 True.intro))))); refine WpM.regPE [] [(1, _), (3, _), (4, _), (5, _), (6, _), (7, _), (8, _), (70, _)] (by (refine s_f [(8, _)] ?_; refine s_l [(60, _)] ?_; refine s_q [(61, _)] ?_; refine s_m [(62, _)] ?_; refine s_wit ?_; intro z_g; (first | refine s_skip rfl z_g z_fp ?_ | (refine s_f [(8, _)] ?_ (hg := z_g))); clear z_g; refine s_wit ?_; intro z_g; (first | refine s_skip rfl z_g z_fp ?_ | (refine s_l [(64, _)] ?_ (hg := z_g))); clear z_g; refine s_wit ?_; intro z_g; (first | refine s_skip rfl z_g z_fp ?_ | (refine s_f [(1, _)] ?_ (hg := z_g))); clear z_g; refine s_wit ?_; intro z_g; (first | refine s_skip rfl z_g z_fp ?_ | (refine s_l [(66, _)] ?_ (hg := z_g))); clear z_g; refine s_wit ?_; intro z_g; (first | refine s_skip rfl z_g z_fp ?_ | (refine s_q [(67, _)] ?_ (hg := z_g))); clear z_g; refine s_wit ?_; intro z_g; (first | refine s_skip rfl z_g z_fp ?_ | (refine s_q [(65, _), (68, _)] ?_ (hg := z_g))); clear z_g; refine s_m [(63, _), (69, _)] ?_; exact wpS_nil ⟨rfl, rfl⟩)) z_su ?_; clear z_ex)
              ((repeat refine WpM.seq ?_); refine WpM.condT (by (simp (maxSteps := 2000000) (disch := omega) [go_sem, -List.map_map, hc1, hc2])) ?_)
              ((repeat refine WpM.seq ?_); have z_ex := True.intro; refine WpM.regPE [] [(2, _)] (by (refine s_m [] ?_; exact wpS_nil ⟨rfl, rfl⟩)) z_su ?_; clear z_ex)
              refine WpM.ret ?_
              exact ⟨.inr rfl, Upd.done ⟨_, (by (simp (maxSteps := 2000000) (disch := omega) [go_sem, -List.map_map, resV, resVs, resV1])), rfl, fun m k _ hk => by have h9 := hH _ _ hk; have h8 := hold m k hk; have h7 := hGk m k h8; (simp (maxSteps := 2000000) (disch := omega) [go_sem, -List.map_map, h8])⟩⟩
        · ((repeat refine WpM.seq ?_); refine WpM.condF (by (simp (maxSteps := 2000000) (disch := omega) [go_sem, -List.map_map, hlt])) ?_)
          (refine WpM.exit ?_; (repeat (with_reducible (first | refine thenM_exit ?_ | refine blockM_eq ?_ | refine blockM_ne (by decide) ?_))))
          obtain rfl : j = t.ops.length := by omega
          rw [List.take_length] at hys
          obtain ⟨g1, g2⟩ := takeWhile_good (okKey h.keys.length) t.ops (fun i hi => hall i hi hi)
          have hev2 : ev.calls.map encCall = t.ops.map fun o => encCall (callOf' h.keys o) := by simp [hev, evOf, g1, List.map_map, Function.comp_def]
          have hevok : evOkB h.keys t = eventOk ev := by simp [evOkB, g2, hev]
          have hck := check45_one hh.1 htok h16n
          rw [← hev] at hck
          rw [show evs [ev] = .sl [.agg [.int .i64 0, .int .i64 t.status, .sl (ev.calls.map encCall)]] by rw [hev]; rfl] at hck
          refine Upd.wp (Upd.freezeIn (nx2 + 25) 2 (cs := [.d (.int .i64 0), .d (.int .i64 t.status), .ms nr 5 0 ys.length]) (xs := ys) (ev.calls.map encCall) (by (simp (maxSteps := 2000000) (disch := omega) [go_sem, -List.map_map])) (by rfl) (by (simp (maxSteps := 2000000) (disch := omega) [go_sem, -List.map_map])) (by rw [List.drop_zero, List.take_length, hys, hev2, List.map_map]; rfl) (by simp [hev2, hys]) (Upd.done ?_))
          refine WpM.less (le_cut (n0 := nx2) (n' := nx + 8) (l' := [(nx2 + 25, some (.box [.d (.int .i64 0), .d (.int .i64 t.status), .d (.sl (ev.calls.map encCall))]))]) hGk (by (simp (maxSteps := 2000000) (disch := omega) [go_sem, -List.map_map]); omega) (by (simp (maxSteps := 2000000) (disch := omega) [go_sem, -List.map_map])) (by (simp (maxSteps := 2000000) (disch := omega) [go_sem, -List.map_map]))) (frLe_frOf (l := [(1, .ptr n0 0), (3, .ptr L 0), (4, .d (.int .i64 i)), (6, .ptr (nx2 + 25) 0)]) (by (simp (maxSteps := 2000000) (disch := omega) [go_sem, -List.map_map]))) ?_
          rw [hevok] at hstep badOk
          cases hb : eventOk ev with
          | false =>
            rw [hb] at hck
            rw [badOk hb, errno_f']
            ((repeat refine WpM.seq ?_); have z_ex := True.intro; refine WpM.regPE [] [(1, _), (3, _), (4, _), (6, _), (94, _)] (by (refine s_l [(6, _)] ?_; refine s_q [(91, _)] ?_; refine s_pure (callOf_eq rfl rfl rfl (mlk_tmp z_lk mlk_nil)) (hck) rfl rfl z_ip z_fp ?_; refine s_q [(93, _)] ?_; exact wpS_nil ⟨rfl, rfl⟩)) z_su ?_; clear z_ex)
            ((repeat refine WpM.seq ?_); refine WpM.condT (by (simp (maxSteps := 2000000) (disch := omega) [go_sem, -List.map_map])) ?_)
            ((repeat refine WpM.seq ?_); have z_ex := True.intro; refine WpM.regPE [] [(2, _)] (by (refine s_m [] ?_; exact wpS_nil ⟨rfl, rfl⟩)) z_su ?_; clear z_ex)
            refine WpM.ret ?_
            exact ⟨.inr rfl, Upd.done ⟨_, (by (simp (maxSteps := 2000000) (disch := omega) [go_sem, -List.map_map, resV, resVs, resV1])), rfl, fun m k _ hk => by have h9 := hH _ _ hk; have h8 := hold m k hk; have h7 := hGk m k h8; (simp (maxSteps := 2000000) (disch := omega) [go_sem, -List.map_map, h8])⟩⟩
          | true =>
            rw [hb] at hck hstep
            ((repeat refine WpM.seq ?_); have z_ex := True.intro; refine WpM.regPE [] [(1, _), (3, _), (4, _), (6, _), (94, _)] (by (refine s_l [(6, _)] ?_; refine s_q [(91, _)] ?_; refine s_pure (callOf_eq rfl rfl rfl (mlk_tmp z_lk mlk_nil)) (hck) rfl rfl z_ip z_fp ?_; refine s_q [(93, _)] ?_; exact wpS_nil ⟨rfl, rfl⟩)) z_su ?_; clear z_ex)
            ((repeat refine WpM.seq ?_); refine WpM.condF (by (simp (maxSteps := 2000000) (disch := omega) [go_sem, -List.map_map])) ?_)
            refine WpM.skip ?_
            obtain ⟨_, _, hl16, hcok⟩ := eventOk_spec hb
            have hwf0 := checkSt_wf hst
            refine WpM.norm ?_
            intro nx5 G5 hnx5 hG5 hk5
            have hbE : G5 (nx2 + 25) = some (.box [.d (.int .i64 0), .d (.int .i64 t.status), .d (.sl (ev.calls.map encCall))]) := by rw [hG5]; (simp (maxSteps := 2000000) (disch := omega) [go_sem, -List.map_map])
            have hbx5 : G5 n0 = some (histB' h) := by rw [hG5]; (simp (maxSteps := 2000000) (disch := omega) [go_sem, -List.map_map, hbx])
            have hold5 : ∀ m k, H m = some k → G5 m = some k := fun m k hk => by
              have h8 := hold m k hk
              have h7 := hGk m k h8
              rw [hG5]
              (simp (maxSteps := 2000000) (disch := omega) [go_sem, -List.map_map, h8])
            have hLed5 : BookAt G5 L b O := hLed.same fun m k ho hk => by
              have := (hO m ho).2
              rw [hG5]
              (simp (maxSteps := 2000000) (disch := omega) [go_sem, -List.map_map, hk])
            have hnx5' : nx2 + 25 < nx5 := by have h3 : nx5 = nx + 11 := hnx5; omega
            have hOE : ¬ O (nx2 + 25) := fun h => by have := (hO _ h).2; omega
            have hO5 : ∀ m, O m → n0 < m ∧ m < nx5 := fun m hm => ⟨(hO m hm).1, by have := (hO m hm).2; omega⟩
            have hn5 : n0 < nx2 + 25 := by omega
            obtain ⟨ne, hne⟩ : ∃ ne, ne = nx2 + 25 := ⟨_, rfl⟩
            rw [← hne] at hbE hnx5' hOE hn5 ⊢
            have hst' : checkSt h (i + 1) = enters b ev.calls i := by rw [checkSt, hst]; exact hstep
            clear hG5 hk5 hnx5 hbx hold hLed hO hGk hck badOk hys hyl hall hev2 g1 g2 hne
            ((repeat refine WpM.seq ?_); have z_ex := True.intro; refine WpM.regPE [] [(1, _), (3, _), (4, _), (6, _), (9, _)] (by (refine s_m [] ?_; exact wpS_nil ⟨rfl, rfl⟩)) z_su ?_; clear z_ex)
            ((repeat refine WpM.seq ?_); refine WpM.block ?_)
            refine WpM.loop (fun (k : Nat) fr S => k ≤ ev.calls.length ∧ ∃ nx G b3 O, S = ⟨nx, [], G⟩ ∧ enters b (ev.calls.take k) i = some b3 ∧ BookAt G L b3 O ∧ (∀ m, O m → n0 < m ∧ m < nx) ∧ n0 < nx ∧ ne < nx ∧ ¬ O ne ∧ G ne = some (.box [.d (.int .i64 0), .d (.int .i64 t.status), .d (.sl (ev.calls.map encCall))]) ∧ G n0 = some (histB' h) ∧ (∀ m k, H m = some k → G m = some k) ∧ fr = frOf [(1, .ptr n0 0), (3, .ptr L 0), (4, .d (.int .i64 i)), (6, .ptr ne 0), (9, .d (.int .i64 k))]) (fun k => ev.calls.length - k) 0 (St.Le.refl _) (Sub.le z_su) ⟨by omega, _, G5, b, O, rfl, rfl, hLed5, fun m hm => ⟨(hO5 m hm).1, by have := (hO5 m hm).2; omega⟩, by omega, by omega, hOE, hbE, hbx5, hold5, rfl⟩ ?_
            clear hbE hbx5 hold5 hLed5 hnx5' hOE hO5
            rintro k fr S' ⟨hk, nx3, G, b3, O, rfl, hent, hLed, hO, hn3, hn3', hOE, hbE, hbx, hold, rfl⟩
            refine WpM.known fun hGk => ?_
            have hGk : ∀ m k, G m = some k → m < nx3 := hGk
            ((repeat refine WpM.seq ?_); have z_ex := (And.intro @hbE True.intro); refine WpM.regPE [] [(1, _), (3, _), (4, _), (6, _), (9, _), (99, _)] (by (refine s_m [(9, _)] ?_; refine s_f [(6, _)] ?_; refine s_l [(96, _)] ?_; refine s_q [(97, _)] ?_; refine s_q [(95, _), (98, _)] ?_; exact wpS_nil ⟨rfl, rfl⟩)) z_su ?_; clear z_ex)
            by_cases hkt : k < ev.calls.length
            · ((repeat refine WpM.seq ?_); refine WpM.condT (by (simp (maxSteps := 2000000) (disch := omega) [go_sem, -List.map_map, hkt])) ?_)
              refine WpM.skip ?_
              ((repeat refine WpM.seq ?_); refine WpM.block ?_)
              obtain ⟨c, hc⟩ : ∃ c, c = ev.calls[k] := ⟨_, rfl⟩
              have hgetc : (ev.calls.map encCall)[k]? = some (encCall c) := by simp [hkt, hc]
              obtain ⟨hk1, hk8⟩ := callOk_kind (hcok c (hc ▸ List.getElem_mem _))
              have hnext := enters_take ev.calls b i k hkt b3 hent
              rw [← hc] at hnext
              have hwf3 := enters_wf _ hwf0 hent
              have hwn : 16 * i + (ev.calls.take k).length ≤ 1000000 := by simp; omega
              have hE := fun S h1 h2 => enter50 b3 _ hwn hwf3 c hk1 hk8 i (by omega) L O S h1 h2
              cases he : enterB b3 c i with
              | error e =>
                rw [he] at hE hnext
                have hcb : checkB h = false := checkB_bad hit hst (by rw [hstep]; exact enters_stop ev.calls b i (k + 1) hnext)
                rw [hcb, errno_f']
                clear hnext hent hwf3 hwf0
                ((repeat refine WpM.seq ?_); have z_ex := (And.intro @hbE (And.intro @hgetc (And.intro @hkt (And.intro @encCall.eq_1 True.intro)))); refine WpM.regP [] ?_; intro K hK; refine s_m [(3, _)] ?_; refine s_f [(6, _)] ?_; refine s_l [(103, _)] ?_; refine s_m [(9, _)] ?_; refine s_q [(104, _), (105, _)] ?_; refine s_l [(106, _)] ?_; refine s_m [(4, _)] ?_; refine s_call (callOf_eq rfl rfl rfl (mlk_tmp z_lk (mlk_tmp z_lk (mlk_tmp z_lk mlk_nil)))) (hE _ hLed (fun m hm => by have := (hO m hm).2; show m < nx3 + _; omega)) rfl rfl z_ip ?_; rintro _ z_S ⟨hnx, old, rfl, hne2⟩; refine s_put z_fp ?_; refine s_q [(109, _)] ?_; refine s_endE [(1, _), (3, _), (4, _), (6, _), (9, _), (110, _)] hK z_su ?_; clear hK K; clear z_ex)
                ((repeat refine WpM.seq ?_); refine WpM.condT (by (simp (maxSteps := 2000000) (disch := omega) [go_sem, -List.map_map, hne2])) ?_)
                ((repeat refine WpM.seq ?_); have z_ex := True.intro; refine WpM.regPE [] [(2, _)] (by (refine s_m [] ?_; exact wpS_nil ⟨rfl, rfl⟩)) z_su ?_; clear z_ex)
                refine WpM.ret ?_
                exact ⟨.inr rfl, Upd.done ⟨_, (by (simp (maxSteps := 2000000) (disch := omega) [go_sem, -List.map_map, resV, resVs, resV1])), rfl, fun m k _ hk => old m k (fun h => by have := (hO m h).1; have h9 := hH m k hk; omega) (hold m k hk)⟩⟩
              | ok b4 =>
                rw [he] at hE hnext
                ((repeat refine WpM.seq ?_); have z_ex := (And.intro @hbE (And.intro @hgetc (And.intro @hkt (And.intro @encCall.eq_1 True.intro)))); refine WpM.regP [] ?_; intro K hK; refine s_m [(3, _)] ?_; refine s_f [(6, _)] ?_; refine s_l [(103, _)] ?_; refine s_m [(9, _)] ?_; refine s_q [(104, _), (105, _)] ?_; refine s_l [(106, _)] ?_; refine s_m [(4, _)] ?_; refine s_call (callOf_eq rfl rfl rfl (mlk_tmp z_lk (mlk_tmp z_lk (mlk_tmp z_lk mlk_nil)))) (hE _ hLed (fun m hm => by have := (hO m hm).2; show m < nx3 + _; omega)) rfl rfl z_ip ?_; rintro _ z_S ⟨hnx, old, rfl, O4, hO4, hLed4⟩; refine s_put z_fp ?_; refine s_q [(109, _)] ?_; refine s_endE [(1, _), (3, _), (4, _), (6, _), (9, _), (110, _)] hK z_su ?_; clear hK K; clear z_ex)
                ((repeat refine WpM.seq ?_); refine WpM.condF (by (simp (maxSteps := 2000000) (disch := omega) [go_sem, -List.map_map])) ?_)
                refine WpM.skip ?_
                refine WpM.norm ?_
                intro nx4 G4 hnx4 hG4 hk4
                have h3 : nx4 = z_S.next + 1 := hnx4
                have h4 : nx3 ≤ z_S.next := Nat.le_trans (Nat.le_add_right _ _) hnx
                have hG4' : G4 = z_S.get := hG4
                have hO4' : ∀ m, O4 m → (O m ∨ nx3 ≤ m) ∧ m < nx4 := fun m hm => by
                  obtain ⟨h1, h2⟩ := hO4 m hm
                  exact ⟨h1.imp id (fun h => Nat.le_trans (Nat.le_add_right _ _) h), by omega⟩
                have old' : ∀ m k, ¬ O m → G m = some k → G4 m = some k := fun m k h1 h2 => by rw [hG4']; exact old m k h1 h2
                have hLed4' : BookAt G4 L b4 O4 := by rw [hG4']; exact hLed4
                clear hnx4 hG4 hG4' hO4 old hLed4 hE hwf3 hwf0 hk4 he
                ((repeat refine WpM.seq ?_); have z_ex := (And.intro @wrap_id True.intro); refine WpM.regPE [] [(1, _), (3, _), (4, _), (6, _), (9, _)] (by (refine s_m [(9, _)] ?_; refine s_q [(100, _)] ?_; refine s_m [(101, _)] ?_; exact wpS_nil ⟨rfl, rfl⟩)) z_su ?_; clear z_ex)
                refine round_end (x' := k + 1) (St.Le.refl _) (Sub.le z_su) ⟨by omega, _, G4, b4, O4, rfl, hnext, hLed4', fun m hm => ?_, ?_, ?_, fun h => ?_, old' ne _ hOE hbE, old' n0 _ (fun h => ?_) hbx, fun m q hq => old' m q (fun h => ?_) (hold m q hq), rfl⟩ (by omega)
                · obtain ⟨h1, h2⟩ := hO4' m hm
                  refine ⟨?_, by omega⟩
                  rcases h1 with h1 | h1
                  · exact (hO m h1).1
                  · omega
                · omega
                · omega
                · rcases (hO4' ne h).1 with h1 | h1
                  · exact hOE h1
                  · omega
                · have := (hO n0 h).1; omega
                · have := (hO m h).1; have h9 := hH m q hq; omega
            · ((repeat refine WpM.seq ?_); refine WpM.condF (by (simp (maxSteps := 2000000) (disch := omega) [go_sem, -List.map_map, hkt])) ?_)
              (refine WpM.exit ?_; (repeat (with_reducible (first | refine thenM_exit ?_ | refine blockM_eq ?_ | refine blockM_ne (by decide) ?_))))
              obtain rfl : k = ev.calls.length := by omega
              rw [List.take_length] at hent
              ((repeat refine WpM.seq ?_); have z_ex := (And.intro @wrap_id True.intro); refine WpM.regPE [] [(1, _), (3, _), (4, _)] (by (refine s_m [(4, _)] ?_; refine s_q [(27, _)] ?_; refine s_m [(28, _)] ?_; exact wpS_nil ⟨rfl, rfl⟩)) z_su ?_; clear z_ex)
              exact round_end (x' := i + 1) (St.Le.refl _) (Sub.le z_su) ⟨by omega, _, G, b3, O, rfl, by rw [hst']; exact hent, hLed, fun m hm => ⟨(hO m hm).1, by have := (hO m hm).2; omega⟩, by omega, hbx, hold, rfl⟩ (by omega)
  · ((repeat refine WpM.seq ?_); refine WpM.condF (by (simp (maxSteps := 2000000) (disch := omega) [go_sem, -List.map_map, hit])) ?_)
    (refine WpM.exit ?_; (repeat (with_reducible (first | refine thenM_exit ?_ | refine blockM_eq ?_ | refine blockM_ne (by decide) ?_))))
    obtain rfl : i = h.txns.length := by omega
    have hr : checkB h = true := by simp [checkB, ← hnm, hst]; omega
    rw [hr, errno_t']
    ((repeat refine WpM.seq ?_); have z_ex := True.intro; refine WpM.regPE [] [(2, _)] (by (refine s_m [] ?_; exact wpS_nil ⟨rfl, rfl⟩)) z_su ?_; clear z_ex)
    refine WpM.ret ?_
    exact ⟨.inr rfl, Upd.done ⟨_, (by (simp (maxSteps := 2000000) (disch := omega) [go_sem, -List.map_map, resV, resVs, resV1])), rfl, fun m k _ hk => by have h9 := hH _ _ hk; have h8 := hold m k hk; have h7 := hGk m k h8; (simp (maxSteps := 2000000) (disch := omega) [go_sem, -List.map_map, h8])⟩⟩
end Go.Proofs.Ytjjmedgibcffhaa
