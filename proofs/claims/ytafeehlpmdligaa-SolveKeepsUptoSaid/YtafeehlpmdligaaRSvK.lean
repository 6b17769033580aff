/- solve: blame. -/
import Derived.Test.YtafeehlpmdligaaROp
import Derived.Test.YtafeehlpmdligaaRCl
import Derived.Test.YtafeehlpmdligaaRSvD
import Derived.Test.YtafeehlpmdligaaRVb
namespace Go.Proofs.Ytafeehlpmdligaa
open Go.RowKit M
set_option linter.unusedSimpArgs false
set_option linter.unusedVariables false
theorem blame_dec {s : Sv} (h : s.Wf) {m : Nat} {b : Bl} (hb : BlOk s m b) (ht : b.todo ≠ []) : (s.n - (s.blameStep b).seen.length) * (s.longest + 1) + (s.blameStep b).todo.length < (s.n - b.seen.length) * (s.longest + 1) + b.todo.length := by
  have hb' := (hb.step h ht).len h
  obtain ⟨l, hl⟩ : ∃ l, b.todo.getLast? = some l := ⟨_, List.getLast?_eq_some_getLast ht⟩
  have hlen : 0 < b.todo.length := List.length_pos_iff.2 ht
  revert hb'
  unfold Sv.blameStep
  rw [hl]
  simp only
  split
  · intro _
    simp only [List.length_dropLast]
    omega
  · split
    · intro hb'
      simp only [List.length_cons] at hb'
      simp only [List.length_dropLast, List.length_cons]
      have : (s.n - (b.seen.length + 1)) * (s.longest + 1) ≤ (s.n - b.seen.length) * (s.longest + 1) := Nat.mul_le_mul_right _ (by omega)
      omega
    · intro hb'
      simp only [List.length_cons] at hb'
      simp only [List.length_append, List.length_dropLast, List.length_cons]
      have hL := s.longest_le (s.rea.getD l.natAbs 0 - 1)
      have : (s.n - b.seen.length) * (s.longest + 1) = (s.n - (b.seen.length + 1)) * (s.longest + 1) + (s.longest + 1) := by
        rw [← Nat.succ_mul]
        congr 1
        omega
      omega
theorem BlOk.dec {s : Sv} (h : s.Wf) {m : Nat} {b : Bl} (hb : BlOk s m b) {x : Int} (hx : x ∈ b.out) : ∃ (p : Nat) (hp : p < s.tr.length), p ∈ s.lv ∧ x = -s.tr[p] := by
  obtain ⟨v, hv, hr, rfl⟩ := (hb.out x).1 hx
  obtain ⟨p, hp, rfl⟩ := h.pos_of (hb.seen v hv).1
  exact ⟨p, hp, (h.dec p hp).1 hr, by rw [Int.neg_mul, h.lit_of (List.getElem_mem hp)]⟩
theorem out_facts {s : Sv} (h : s.Wf) {m : Nat} {b : Bl} (hb : BlOk s m b) (hn : s.n ≤ 4096) : (∀ x ∈ b.out, s.dep.getD x.natAbs 0 ≤ 4096) ∧ (∀ x ∈ b.out, x.natAbs ≤ s.n) ∧ (b.out.map fun x => s.dep.getD x.natAbs 0).Nodup := by
  have hlv : s.lv.length ≤ s.n := by
    have h1 : s.lv.Nodup := h.lvs.imp fun hab => Nat.ne_of_lt hab
    have := nodup_le_n (s.tr.length) (s.lv.map (· + 1)) (by
      unfold List.Nodup
      rw [List.pairwise_map]
      exact h1.imp fun a b => a (by omega)) (fun v hv => by
      obtain ⟨u, hu, rfl⟩ := List.mem_map.1 hv
      have := h.lvl u hu
      omega)
    have h2 := h.tr_len
    simp at this
    omega
  have dep_of : ∀ (p : Nat) (hp : p < s.tr.length), s.dep.getD (-s.tr[p]).natAbs 0 = (s.lv.filter (· ≤ p)).length := fun p hp => by rw [Int.natAbs_neg]; exact h.dpt p hp
  have le_of : ∀ (i j : Nat), i ∈ s.lv → (s.lv.filter (· ≤ i)).length ≤ (s.lv.filter (· ≤ j)).length → i ≤ j := by
    intro i j hil hle
    obtain ⟨a, ha, rfl⟩ := List.getElem_of_mem hil
    have h1 := (count_iff (p := s.lv[a]) h.lvs a ha).1 (Nat.le_refl _)
    exact (count_iff (p := j) h.lvs a ha).2 (by omega)
  refine ⟨fun x hx => ?_, fun x hx => ?_, ?_⟩
  · obtain ⟨p, hp, _, rfl⟩ := hb.dec h hx
    rw [dep_of p hp]
    have := List.length_filter_le (fun t => decide (t ≤ p)) s.lv
    omega
  · obtain ⟨p, hp, _, rfl⟩ := hb.dec h hx
    rw [Int.natAbs_neg]
    exact (h.trl _ (List.getElem_mem hp)).2
  · have h1 := hb.outn
    unfold List.Nodup at h1 ⊢
    rw [List.pairwise_map] at h1 ⊢
    refine h1.imp_of_mem fun {x y} hx hy hne he => ?_
    obtain ⟨p, hp, hpl, rfl⟩ := hb.dec h hx
    obtain ⟨q, hq, hql, rfl⟩ := hb.dec h hy
    rw [dep_of p hp, dep_of q hq] at he
    have h2 := le_of p q hpl (by omega)
    have h3 := le_of q p hql (by omega)
    obtain rfl : p = q := by omega
    exact hne rfl
/-- What slices.SortFunc does with what blame hands it. -/
def SortsD : Prop := ∀ (s : Sv) (sp na nv nr nd nc nt nl np nm bt : Nat) (xs : List Int) (S : St), s.Len → s.n ≤ 4096 → (∀ x ∈ xs, s.dep.getD x.natAbs 0 ≤ 4096) → (∀ x ∈ xs, x.natAbs ≤ s.n) → (xs.map fun x => s.dep.getD x.natAbs 0).Nodup → nm ≠ nd →
    S.get sp = some (svBox s na nv nr nd nc nt nl np) → S.get nd = some (.row 1 (s.dep.map nlit)) → S.get bt = some (.box [.ptr sp 0]) → S.get nm = some (.row 1 (xs.map lit)) →
    CallM Try.prog 79 [.ms nm 1 0 xs.length, .fn 80 [.ptr bt 0]] S fun r S' => S'.get nm = some (.row 1 ((sortD s.dep xs).map lit)) ∧ ∀ m k, m ≠ nm → S.get m = some k → S'.get m = some k
/-- The memory of blame. -/
structure BlS (H : Nat → Option Blk) (n0 sp : Nat) (b : Bl) (G : Nat → Option Blk) (nt no : Nat) (mm : D → Option V) (ex : List V) : Prop where
  keep : ∀ m k, H m = some k → G m = some k
  box : G n0 = some (.box [.ptr sp 0])
  map : G (n0 + 2) = some (.map (.int .i64) mm)
  todo : G nt = some (.row 1 (b.todo.map lit ++ ex))
  out : G no = some (.row 1 (b.out.map lit))
  mms : ∀ v : Nat, mm (.int .i64 v) = if v ∈ b.seen then some (.d (.agg [])) else none
  l1 : n0 + 2 < nt
  l2 : n0 + 2 < no
  ne : nt ≠ no
theorem BlS.old {H : Nat → Option Blk} {n0 sp : Nat} {b : Bl} {G G' : Nat → Option Blk} {nt no : Nat} {mm : D → Option V} {ex : List V} (h : BlS H n0 sp b G nt no mm ex) (hk : ∀ m k, G m = some k → G' m = some k) : BlS H n0 sp b G' nt no mm ex :=
  ⟨fun m k hm => hk _ _ (h.keep m k hm), hk _ _ h.box, hk _ _ h.map, hk _ _ h.todo, hk _ _ h.out, h.mms, h.l1, h.l2, h.ne⟩
theorem round_norm {α : Type} {I : α → Fr → St → Prop} {μ : α → Nat} {x x' : α} {fr fr' : Fr} {S : St} {Q : Exit → Fr → St → Prop} (hf : FrLe fr fr') (hI : ∀ G, G = S.get → I x' fr' ⟨S.next, [], G⟩) (hm : μ x' < μ x) :
    thenM (fun fr' S' => ∃ x' fr'' S'', S'.Le S'' ∧ FrLe fr' fr'' ∧ I x' fr'' S'' ∧ μ x' < μ x) Q .normal fr S := ⟨x', fr', ⟨S.next, [], S.get⟩, ⟨Nat.le_refl _, fun m k h => h⟩, hf, hI _ rfl, hm⟩
theorem last_split {α : Type} {l : List α} {a : α} (h : l.getLast? = some a) : l = l.dropLast ++ [a] := by
  have hne : l ≠ [] := by rintro rfl; cases h
  rw [List.getLast?_eq_some_getLast hne] at h
  injection h with h
  rw [← h]
  exact (List.dropLast_concat_getLast hne).symm
set_option maxHeartbeats 8000000 in
theorem blame71 (hsort : SortsD) (H0 : Nat → Option Blk) (sp : Nat) (s : Sv) (S : St) (h : SvS H0 sp s S.get) (hw : s.Wf) (hb : Small s) (m : Nat) (hc : Conflict s m) (hlg : s.longest ≤ 1000000) :
    PureS Try.prog 71 [.ptr sp 0, .d (.int .i64 m)] (.d (ints (s.blame m))) S := by
  refine CallM.pure' (by rfl) (CallM.start (n := 97) Try.func71 rfl rfl (by simp) (by simp only [argL, Nat.reduceAdd] <;> rfl) ?_)
  intro hH
  obtain ⟨H, hHe⟩ : ∃ H, H = S.get := ⟨_, rfl⟩
  obtain ⟨n0, hne⟩ : ∃ n0, n0 = S.next := ⟨_, rfl⟩
  rw [← hHe, ← hne] at hH ⊢
  rw [← hHe] at h
  obtain ⟨na, nv, nr, nd, nc, nt, nl, np, am, nx, et, el, hE⟩ := h
  have k1 := hE.box
  have k2 := hE.rv
  have k3 := hE.rr
  have k4 := hE.rd
  have k5 := hE.rc
  have g1 := hH _ _ k1
  have g2 := hH _ _ k2
  have g3 := hH _ _ k3
  have g4 := hH _ _ k4
  have g5 := hH _ _ k5
  have hm := hc.lt
  obtain ⟨bf, hbf, _, _⟩ := blame_end hw hc
  obtain ⟨c, hce⟩ : ∃ c, c = s.cs.getD m [] := ⟨_, rfl⟩
  have hcl : c.length ≤ 1000000 := by rw [hce]; exact hb.cl m
  have q5u : (s.cs.map fun c => V.d (D.sl (c.map (D.int .i64))))[m]? = some (.d (.sl (c.map (D.int .i64)))) := by rw [hce]; exact cl_get hm
  ((repeat refine WpM.seq ?_); have z_ex := True.intro; refine WpM.regPE [] [(1, _), (2, _)] (by (refine s_o [(0, _)] rfl rfl rfl z_su rfl q_box z_fp z_ss ?_; refine s_o [] rfl rfl rfl z_su rfl q_move z_fp z_ss ?_; exact wpS_nil ⟨rfl, rfl⟩)) z_su ?_; clear z_ex)
  ((repeat refine WpM.seq ?_); have z_ex := True.intro; refine WpM.regPE [] [(1, _), (2, _), (5, _)] (by (refine s_o [] rfl rfl rfl z_su rfl q_makeMap z_fp z_ss ?_; refine s_o [(11, _)] rfl rfl rfl z_su rfl q_move z_fp z_ss ?_; exact wpS_nil ⟨rfl, rfl⟩)) z_su ?_; clear z_ex)
  ((repeat refine WpM.seq ?_); have z_ex := (And.intro @k1 (And.intro @k5 (And.intro @svBox.eq_1 (And.intro @q5u (And.intro @hm (And.intro @ints.eq_1 True.intro)))))); refine WpM.regP [] ?_; intro K hK; refine s_o [(2, _)] rfl rfl rfl z_su rfl q_load z_fp z_ss ?_; refine s_o [(12, _)] rfl rfl rfl z_su rfl q_move z_fp z_ss ?_; refine s_o [(13, _)] rfl rfl rfl z_su rfl q_fieldAddr z_fp z_ss ?_; refine s_o [(14, _)] rfl rfl rfl z_su rfl q_load z_fp z_ss ?_; refine s_o [(1, _)] rfl rfl rfl z_su rfl q_move z_fp z_ss ?_; refine s_o [(15, _), (16, _)] rfl rfl rfl z_su rfl q_full z_fp z_ss ?_; refine s_o [(17, _)] rfl rfl rfl z_su rfl q_load z_fp z_ss ?_; refine s_call (callOf_eq rfl rfl rfl (mlk_tmp z_lk mlk_nil)) (clone50o c (by omega) _) rfl rfl z_ip ?_; rintro _ z_S ⟨nm, h1, rfl, h2, h3⟩; refine s_put z_fp ?_; refine s_o [(19, _)] rfl rfl rfl z_su rfl q_move z_fp z_ss ?_; refine s_endE [(2, _), (5, _), (6, _)] hK z_su ?_; clear hK K; clear z_ex)
  refine WpM.norm ?_
  intro nn G hnn hG hk
  have hG : G = z_S.get := hG
  have hnn : nn = z_S.next + 1 := hnn
  have hgk : ∀ m k, G m = some k → m < nn := hk
  have h1 : n0 + 11 ≤ nm := h1
  have c2 : G nm = some (.row 1 (c.map lit)) := by rw [hG]; exact h2
  have c3 : G n0 = some (.box [.ptr sp 0]) := by rw [hG]; exact h3 _ _ (by (simp (maxSteps := 2000000) (disch := omega) [go_sem, -List.map_map]))
  have c4 : G (n0 + 2) = some (.map (.int .i64) fun _ => none) := by rw [hG]; exact h3 _ _ (by (simp (maxSteps := 2000000) (disch := omega) [go_sem, -List.map_map]))
  have c5 : ∀ m k, H m = some k → G m = some k := fun m k hk => by
    have := hH m k hk
    rw [hG]
    exact h3 _ _ (by (simp (maxSteps := 2000000) (disch := omega) [go_sem, -List.map_map, hk]))
  have c6 := hgk _ _ c2
  clear hG hk hnn h2 h3
  ((repeat refine WpM.seq ?_); have z_ex := True.intro; refine WpM.regPE [] [(2, _), (5, _), (6, _), (7, _)] (by (refine s_o [] rfl rfl rfl z_su rfl q_move z_fp z_ss ?_; exact wpS_nil ⟨rfl, rfl⟩)) z_su ?_; clear z_ex)
  refine Upd.wp (Upd.ghost 7 1 (.inl (by (simp (maxSteps := 2000000) (disch := omega) [go_sem, -List.map_map]))) (Upd.done ?_))
  refine WpM.less (St.Le.refl _) (frLe_frOf (l := [(2, .ptr n0 0), (5, .map (n0 + 2)), (6, .ms nm 1 0 c.length), (7, .ms (nn + 1) 1 0 0)]) (by (simp (maxSteps := 2000000) (disch := omega) [go_sem, -List.map_map, fset]))) ?_
  refine WpM.norm ?_
  intro nn1 G1 hnn1 hG1 hk1
  have hnn1 : nn1 = nn + 2 := hnn1
  have hB : BlS H n0 sp ⟨[], c, []⟩ G1 nm (nn + 1) (fun _ => none) [] := by
    have e1 : nm ≠ nn + 1 := by omega
    have e2 : n0 ≠ nn + 1 := by omega
    have e3 : n0 + 2 ≠ nn + 1 := by omega
    refine ⟨fun m k hk => ?_, by rw [hG1]; (simp (maxSteps := 2000000) (disch := omega) [go_sem, -List.map_map, c3, e2]), by rw [hG1]; (simp (maxSteps := 2000000) (disch := omega) [go_sem, -List.map_map, c4, e3]), by rw [hG1]; (simp (maxSteps := 2000000) (disch := omega) [go_sem, -List.map_map, c2, e1]), by rw [hG1]; (simp (maxSteps := 2000000) (disch := omega) [go_sem, -List.map_map]), fun v => by simp, by omega, by omega, e1⟩
    have e4 := hH m k hk
    have e5 := c5 m k hk
    have e6 : m ≠ nn + 1 := by omega
    rw [hG1]; (simp (maxSteps := 2000000) (disch := omega) [go_sem, -List.map_map, e5, e6])
  clear hG1 hk1 c2 c3 c4 c5 c6 hgk hnn1
  have hfuel : s.blameN (s.blameFuel m) ⟨[], c, []⟩ = some bf := by rw [hce]; exact hbf
  have hst : BlOk s m ⟨[], c, []⟩ := by rw [hce]; exact BlOk.start hw hc
  have hms : (s.n - ([] : List Nat).length) * (s.longest + 1) + c.length < s.blameFuel m := by
    unfold Sv.blameFuel
    rw [← hce]
    simp
  have hfb : s.blameFuel m ≤ 5000000000 := by
    unfold Sv.blameFuel
    rw [← hce]
    have h1 := hb.n
    have h2 : s.n * (s.longest + 1) ≤ 4096 * 1000001 := Nat.mul_le_mul h1 (by omega)
    omega
  ((repeat refine WpM.seq ?_); refine WpM.block ?_)
  refine WpM.loop (fun (x : Nat × Bl) fr S => s.blameN x.1 x.2 = some bf ∧ BlOk s m x.2 ∧ (s.n - x.2.seen.length) * (s.longest + 1) + x.2.todo.length < x.1 ∧ x.1 ≤ s.blameFuel m ∧ ∃ nn G nt no mm ex, S = ⟨nn, [], G⟩ ∧ BlS H n0 sp x.2 G nt no mm ex ∧
      fr = frOf [(2, .ptr n0 0), (5, .map (n0 + 2)), (6, .ms nt 1 0 x.2.todo.length), (7, .ms no 1 0 x.2.out.length)]) (fun x => x.1) (s.blameFuel m, ⟨[], c, []⟩) (St.Le.refl _) (Sub.le z_su) ⟨hfuel, hst, hms, Nat.le_refl _, nn1, G1, nm, nn + 1, _, [], rfl, hB, rfl⟩ ?_
  clear hB hfuel hst hms h1
  rintro ⟨f, b⟩ fr S' ⟨hf, hok, hme, hfl, nn, G, nt', no, mm, ex, rfl, hB, rfl⟩
  simp only at hf hok hme hfl hB
  cases f with
  | zero => cases hf
  | succ f =>
  rw [Sv.blameN] at hf
  refine WpM.known fun hGk => ?_
  have hGk : ∀ m k, G m = some k → m < nn := hGk
  have b1 := hB.box
  have b2 := hB.map
  have b3 := hB.todo
  have b4 := hB.out
  have d1 := hGk _ _ b1
  have d2 := hGk _ _ b2
  have d3 := hGk _ _ b3
  have d4 := hGk _ _ b4
  have l1 := hB.l1
  have l2 := hB.l2
  have lne := hB.ne
  have kk1 := hB.keep _ _ k1
  have kk4 := hB.keep _ _ k4
  ((repeat refine WpM.seq ?_); have z_ex := True.intro; refine WpM.regPE [] [(2, _), (5, _), (6, _), (7, _), (22, _)] (by (refine s_o [(6, _)] rfl rfl rfl z_su rfl q_move z_fp z_ss ?_; refine s_o [(20, _)] rfl rfl rfl z_su rfl q_full z_fp z_ss ?_; refine s_o [(21, _)] rfl rfl rfl z_su rfl q_full z_fp z_ss ?_; exact wpS_nil ⟨rfl, rfl⟩)) z_su ?_; clear z_ex)
  by_cases ht : b.todo = []
  · rw [if_pos ht] at hf
    have hl0 : b.todo.length = 0 := by rw [ht]; rfl
    ((repeat refine WpM.seq ?_); refine WpM.condF (by (simp (maxSteps := 2000000) (disch := omega) [go_sem, -List.map_map, hl0])) ?_)
    (refine WpM.exit ?_; (repeat (with_reducible (first | refine thenM_exit ?_ | refine blockM_eq ?_ | refine blockM_ne (by decide) ?_))))
    have hbb : b = bf := by injection hf
    have hbl : s.blame m = sortD s.dep b.out := by
      unfold Sv.blame
      rw [hbf, hbb]
      rfl
    obtain ⟨hdd, hxn, hnd⟩ := out_facts hw hok hb.n
    have hsrt := fun n => hsort s sp na nv nr nd nc nt nl np no n0 b.out ⟨n, [], G⟩ hw.len hb.n hdd hxn hnd (by have := hH _ _ k4; omega) kk1 kk4 b1 b4
    ((repeat refine WpM.seq ?_); have z_ex := True.intro; refine WpM.regP [] ?_; intro K hK; refine s_o [(7, _)] rfl rfl rfl z_su rfl q_move z_fp z_ss ?_; refine s_o [(2, _)] rfl rfl rfl z_su rfl q_move z_fp z_ss ?_; refine s_call (callOf_eq rfl rfl rfl (mlk_tmp z_lk (mlk_tmp z_lk mlk_nil))) (hsrt _) rfl rfl z_ip ?_; rintro _ z_S ⟨q1, q2⟩; refine s_put z_fp ?_; refine s_endE [(7, _)] hK z_su ?_; clear hK K; clear z_ex)
    refine WpM.norm ?_
    intro nn1 G1 hnn1 hG1 hk1
    have p1 : G1 no = some (.row 1 ((sortD s.dep b.out).map lit)) := by rw [hG1]; exact q1
    have p2 : ∀ m k, m < n0 → H m = some k → G1 m = some k := fun m k hm hk => by
      rw [hG1]
      exact q2 m k (by omega) (hB.keep m k hk)
    clear hG1 q1 q2 hk1
    have hsl : (sortD s.dep b.out).length = b.out.length := (sortD_perm s.dep b.out).length_eq
    rw [← hbl] at p1 hsl
    rw [← hsl]
    ((repeat refine WpM.seq ?_); have z_ex := True.intro; refine WpM.regPE [] [(4, _)] (by (refine s_o [(7, _)] rfl rfl rfl z_su rfl q_move z_fp z_ss ?_; refine s_o [(96, _)] rfl rfl rfl z_su rfl q_move z_fp z_ss ?_; exact wpS_nil ⟨rfl, rfl⟩)) z_su ?_; clear z_ex)
    refine WpM.ret ?_
    refine ⟨.inr rfl, Upd.freeze 4 (nm := no) (sz := 1) (o := 0) (m := (s.blame m).length) (xs := (s.blame m).map lit) ((s.blame m).map (D.int .i64)) (by (simp (maxSteps := 2000000) (disch := omega) [go_sem, -List.map_map])) (by (simp (maxSteps := 2000000) (disch := omega) [go_sem, -List.map_map, p1])) (by rw [List.drop_zero, List.take_of_length_le (by simp), List.map_map]; rfl) (by simp) (Upd.done ⟨.d (ints (s.blame m)), (by (simp (maxSteps := 2000000) (disch := omega) [go_sem, -List.map_map, resV, resVs, resV1, ints, fset])), rfl, fun k q hk hq => ?_⟩)⟩
    have h9 := p2 k q hk hq
    have e7 : k ≠ no := by omega
    (simp (maxSteps := 2000000) (disch := omega) [go_sem, -List.map_map, h9, e7])
  · rw [if_neg ht] at hf
    have hl0 : 0 < b.todo.length := List.length_pos_iff.2 ht
    ((repeat refine WpM.seq ?_); refine WpM.condT (by (simp (maxSteps := 2000000) (disch := omega) [go_sem, -List.map_map, hl0])) ?_)
    refine WpM.skip ?_
    ((repeat refine WpM.seq ?_); refine WpM.block ?_)
    obtain ⟨l, hl⟩ : ∃ l, b.todo.getLast? = some l := ⟨_, List.getLast?_eq_some_getLast ht⟩
    obtain ⟨l0, lh⟩ := hok.todo l (List.mem_of_getLast? hl)
    have hlv := hw.v_le (Sv.has_abs.1 lh)
    have habs := abs72 l (by have := hb.n; omega)
    have hgl : (b.todo.map lit ++ ex)[b.todo.length - 1]? = some (.d (.int .i64 l)) := by
      rw [List.getElem?_append_left (by simp; omega), List.getElem?_map]
      rw [List.getLast?_eq_getElem?] at hl
      rw [hl]; rfl
    have hsub : (b.todo.length : Int) - 1 = ((b.todo.length - 1 : Nat) : Int) := by omega
    have hlt : b.todo.length - 1 < b.todo.length := by omega
    have hle : b.todo.length - 1 ≤ b.todo.length := by omega
    ((repeat refine WpM.seq ?_); have z_ex := (And.intro @b3 (And.intro @hgl (And.intro @hsub (And.intro @hlt (And.intro @wrap_id True.intro))))); refine WpM.regPE [] [(2, _), (5, _), (6, _), (7, _), (8, _)] (by (refine s_o [(6, _)] rfl rfl rfl z_su rfl q_move z_fp z_ss ?_; refine s_o [(6, _)] rfl rfl rfl z_su rfl q_move z_fp z_ss ?_; refine s_o [(24, _)] rfl rfl rfl z_su rfl q_full z_fp z_ss ?_; refine s_o [(25, _)] rfl rfl rfl z_su rfl q_full z_fp z_ss ?_; refine s_o [(23, _), (26, _)] rfl rfl rfl z_su rfl q_full z_fp z_ss ?_; refine s_o [(27, _)] rfl rfl rfl z_su rfl q_load z_fp z_ss ?_; refine s_pure (callOf_eq rfl rfl rfl (mlk_tmp z_lk mlk_nil)) (habs) rfl rfl z_ip z_fp ?_; refine s_o [(29, _)] rfl rfl rfl z_su rfl q_move z_fp z_ss ?_; exact wpS_nil ⟨rfl, rfl⟩)) z_su ?_; clear z_ex)
    ((repeat refine WpM.seq ?_); have z_ex := (And.intro @b3 (And.intro @hsub (And.intro @hle (And.intro @wrap_id True.intro)))); refine WpM.regPE [] [(2, _), (5, _), (6, _), (7, _), (8, _)] (by (refine s_o [(6, _)] rfl rfl rfl z_su rfl q_move z_fp z_ss ?_; refine s_o [(6, _)] rfl rfl rfl z_su rfl q_move z_fp z_ss ?_; refine s_o [(31, _)] rfl rfl rfl z_su rfl q_full z_fp z_ss ?_; refine s_o [(32, _)] rfl rfl rfl z_su rfl q_full z_fp z_ss ?_; refine s_o [(30, _), (33, _)] rfl rfl rfl z_su rfl q_full z_fp z_ss ?_; refine s_o [(34, _)] rfl rfl rfl z_su rfl q_move z_fp z_ss ?_; exact wpS_nil ⟨rfl, rfl⟩)) z_su ?_; clear z_ex)
    obtain ⟨v, hve⟩ : ∃ v, v = l.natAbs := ⟨_, rfl⟩
    rw [← hve]
    have hmmv := hB.mms v
    have hgd : (mm (D.int IntKind.i64 (v : Int))).getD (V.d (D.agg [])) = .d (.agg []) := by
      rw [hmmv]; split <;> rfl
    have his : (mm (D.int IntKind.i64 (v : Int))).isSome = decide (v ∈ b.seen) := by
      rw [hmmv]; split <;> simp_all
    ((repeat refine WpM.seq ?_); have z_ex := (And.intro @b2 (And.intro @hgd (And.intro @his True.intro))); refine WpM.regPE [] [(2, _), (5, _), (6, _), (7, _), (8, _), (10, _)] (by (refine s_o [(5, _)] rfl rfl rfl z_su rfl q_move z_fp z_ss ?_; refine s_o [(8, _)] rfl rfl rfl z_su rfl q_move z_fp z_ss ?_; refine s_o [(36, _), (37, _)] rfl rfl rfl z_su rfl q_lookup z_fp z_ss ?_; refine s_o [(38, _)] rfl rfl rfl z_su rfl q_move z_fp z_ss ?_; refine s_o [(35, _)] rfl rfl rfl z_su rfl q_extract z_fp z_ss ?_; refine s_o [(35, _)] rfl rfl rfl z_su rfl q_extract z_fp z_ss ?_; refine s_o [] rfl rfl rfl z_su rfl q_alloc z_fp z_ss ?_; refine s_o [(9, _), (39, _)] rfl rfl rfl z_su rfl q_store z_fp z_ss ?_; refine s_o [(40, _)] rfl rfl rfl z_su rfl q_move z_fp z_ss ?_; exact wpS_nil ⟨rfl, rfl⟩)) z_su ?_; clear z_ex)
    refine WpM.norm ?_
    intro nn1 G1 hnn1 hG1 hk1
    have hnn1 : nn1 = nn + 25 := hnn1
    have hB1 : BlS H n0 sp b G1 nt' no mm ex := hB.old fun m k hk => by
      have := hGk m k hk
      have e : m ≠ nn + 22 := by omega
      rw [hG1]
      (simp (maxSteps := 2000000) (disch := omega) [go_sem, -List.map_map, hk, e])
    have hGk1 : ∀ m k, G1 m = some k → m < nn1 := hk1
    clear hG1 hk1 b1 b2 b3 b4 hB hGk d1 d2 d3 d4 hnn1
    have b1 := hB1.box
    have b2 := hB1.map
    have b3 := hB1.todo
    have b4 := hB1.out
    have d1 := hGk1 _ _ b1
    have d2 := hGk1 _ _ b2
    have d3 := hGk1 _ _ b3
    have d4 := hGk1 _ _ b4
    clear kk1 kk4
    have kk1 := hB1.keep _ _ k1
    have kk2 := hB1.keep _ _ k2
    have kk3 := hB1.keep _ _ k3
    have kk4 := hB1.keep _ _ k4
    have kk5 := hB1.keep _ _ k5
    have hdl : b.todo.dropLast.length = b.todo.length - 1 := List.length_dropLast
    have hsp := last_split hl
    have hrow : b.todo.map lit ++ ex = b.todo.dropLast.map lit ++ (lit l :: ex) := by
      conv => lhs; rw [hsp]
      simp
    have hdec := blame_dec hw hok ht
    have hok' := hok.step hw ht
    have v1 := hw.dlen
    have v2 := hw.rlen
    have v3 := hw.vlen
    have hvn : v < s.n + 1 := by omega
    have q4 := nl_get (val := s.dep) (v := v) (by omega)
    obtain ⟨dv, hdv⟩ : ∃ dv, dv = s.dep.getD v 0 := ⟨_, rfl⟩
    rw [← hdv] at q4
    by_cases hcond : v ∈ b.seen ∨ dv = 0
    · have hstep : s.blameStep b = { b with todo := b.todo.dropLast } := by
        unfold Sv.blameStep
        rw [hl]
        simp only
        rw [if_pos (by rw [← hve, ← hdv]; exact hcond)]
      rw [hstep] at hf hdec hok'
      have hend : BlS H n0 sp { b with todo := b.todo.dropLast } G1 nt' no mm (lit l :: ex) := ⟨hB1.keep, hB1.box, hB1.map, by rw [← hrow]; exact hB1.todo, hB1.out, hB1.mms, hB1.l1, hB1.l2, hB1.ne⟩
      have htl : ({ b with todo := b.todo.dropLast } : Bl).todo.length = b.todo.length - 1 := hdl
      by_cases h1 : v ∈ b.seen
      · ((repeat refine WpM.seq ?_); have z_ex := (And.intro @h1 True.intro); refine WpM.regPE [] [(2, _), (5, _), (6, _), (7, _), (8, _), (51, _)] (by (refine s_o [(10, _)] rfl rfl rfl z_su rfl q_move z_fp z_ss ?_; refine s_o [(41, _)] rfl rfl rfl z_su rfl q_move z_fp z_ss ?_; refine s_wit ?_; intro z_g; (first | refine s_skip rfl z_g z_fp ?_ | (refine s_o [(2, _)] rfl z_g rfl z_su rfl q_load z_fp z_ss ?_)); clear z_g; refine s_wit ?_; intro z_g; (first | refine s_skip rfl z_g z_fp ?_ | (refine s_o [(43, _)] rfl z_g rfl z_su rfl q_move z_fp z_ss ?_)); clear z_g; refine s_wit ?_; intro z_g; (first | refine s_skip rfl z_g z_fp ?_ | (refine s_o [(44, _)] rfl z_g rfl z_su rfl q_fieldAddr z_fp z_ss ?_)); clear z_g; refine s_wit ?_; intro z_g; (first | refine s_skip rfl z_g z_fp ?_ | (refine s_o [(45, _)] rfl z_g rfl z_su rfl q_load z_fp z_ss ?_)); clear z_g; refine s_wit ?_; intro z_g; (first | refine s_skip rfl z_g z_fp ?_ | (refine s_o [(8, _)] rfl z_g rfl z_su rfl q_move z_fp z_ss ?_)); clear z_g; refine s_wit ?_; intro z_g; (first | refine s_skip rfl z_g z_fp ?_ | (refine s_o [(46, _), (47, _)] rfl z_g rfl z_su rfl q_full z_fp z_ss ?_)); clear z_g; refine s_wit ?_; intro z_g; (first | refine s_skip rfl z_g z_fp ?_ | (refine s_o [(48, _)] rfl z_g rfl z_su rfl q_load z_fp z_ss ?_)); clear z_g; refine s_wit ?_; intro z_g; (first | refine s_skip rfl z_g z_fp ?_ | (refine s_o [(49, _)] rfl z_g rfl z_su rfl q_full z_fp z_ss ?_)); clear z_g; refine s_o [(42, _), (50, _)] rfl rfl rfl z_su rfl q_move z_fp z_ss ?_; exact wpS_nil ⟨rfl, rfl⟩)) z_su ?_; clear z_ex)
        ((repeat refine WpM.seq ?_); refine WpM.condT (by (simp (maxSteps := 2000000) (disch := omega) [go_sem, -List.map_map, h1])) ?_)
        (refine WpM.exit ?_; (repeat (with_reducible (first | refine thenM_exit ?_ | refine blockM_eq ?_ | refine blockM_ne (by decide) ?_))))
        rw [← hdl]
        exact round_end (x' := (f, { b with todo := b.todo.dropLast })) (St.Le.refl _) (Sub.le z_su) ⟨hf, hok', by simp only at hdec ⊢; omega, by simp only; omega, _, G1, nt', no, mm, _, rfl, hend, rfl⟩ (by simp only; omega)
      · have h2 : dv = 0 := hcond.resolve_left h1
        ((repeat refine WpM.seq ?_); have z_ex := (And.intro @h1 (And.intro @h2 (And.intro @b1 (And.intro @kk1 (And.intro @kk4 (And.intro @svBox.eq_1 (And.intro @q4 (And.intro @hvn True.intro)))))))); refine WpM.regPE [] [(2, _), (5, _), (6, _), (7, _), (8, _), (51, _)] (by (refine s_o [(10, _)] rfl rfl rfl z_su rfl q_move z_fp z_ss ?_; refine s_o [(41, _)] rfl rfl rfl z_su rfl q_move z_fp z_ss ?_; refine s_wit ?_; intro z_g; (first | refine s_skip rfl z_g z_fp ?_ | (refine s_o [(2, _)] rfl z_g rfl z_su rfl q_load z_fp z_ss ?_)); clear z_g; refine s_wit ?_; intro z_g; (first | refine s_skip rfl z_g z_fp ?_ | (refine s_o [(43, _)] rfl z_g rfl z_su rfl q_move z_fp z_ss ?_)); clear z_g; refine s_wit ?_; intro z_g; (first | refine s_skip rfl z_g z_fp ?_ | (refine s_o [(44, _)] rfl z_g rfl z_su rfl q_fieldAddr z_fp z_ss ?_)); clear z_g; refine s_wit ?_; intro z_g; (first | refine s_skip rfl z_g z_fp ?_ | (refine s_o [(45, _)] rfl z_g rfl z_su rfl q_load z_fp z_ss ?_)); clear z_g; refine s_wit ?_; intro z_g; (first | refine s_skip rfl z_g z_fp ?_ | (refine s_o [(8, _)] rfl z_g rfl z_su rfl q_move z_fp z_ss ?_)); clear z_g; refine s_wit ?_; intro z_g; (first | refine s_skip rfl z_g z_fp ?_ | (refine s_o [(46, _), (47, _)] rfl z_g rfl z_su rfl q_full z_fp z_ss ?_)); clear z_g; refine s_wit ?_; intro z_g; (first | refine s_skip rfl z_g z_fp ?_ | (refine s_o [(48, _)] rfl z_g rfl z_su rfl q_load z_fp z_ss ?_)); clear z_g; refine s_wit ?_; intro z_g; (first | refine s_skip rfl z_g z_fp ?_ | (refine s_o [(49, _)] rfl z_g rfl z_su rfl q_full z_fp z_ss ?_)); clear z_g; refine s_o [(42, _), (50, _)] rfl rfl rfl z_su rfl q_move z_fp z_ss ?_; exact wpS_nil ⟨rfl, rfl⟩)) z_su ?_; clear z_ex)
        ((repeat refine WpM.seq ?_); refine WpM.condT (by (simp (maxSteps := 2000000) (disch := omega) [go_sem, -List.map_map, h2])) ?_)
        (refine WpM.exit ?_; (repeat (with_reducible (first | refine thenM_exit ?_ | refine blockM_eq ?_ | refine blockM_ne (by decide) ?_))))
        rw [← hdl]
        exact round_end (x' := (f, { b with todo := b.todo.dropLast })) (St.Le.refl _) (Sub.le z_su) ⟨hf, hok', by simp only at hdec ⊢; omega, by simp only; omega, _, G1, nt', no, mm, _, rfl, hend, rfl⟩ (by simp only; omega)
    · have h1 : v ∉ b.seen := fun e => hcond (.inl e)
      have h2 : ¬ dv = 0 := fun e => hcond (.inr e)
      ((repeat refine WpM.seq ?_); have z_ex := (And.intro @h1 (And.intro @h2 (And.intro @b1 (And.intro @kk1 (And.intro @kk4 (And.intro @svBox.eq_1 (And.intro @q4 (And.intro @hvn True.intro)))))))); refine WpM.regPE [] [(2, _), (5, _), (6, _), (7, _), (8, _), (51, _)] (by (refine s_o [(10, _)] rfl rfl rfl z_su rfl q_move z_fp z_ss ?_; refine s_o [(41, _)] rfl rfl rfl z_su rfl q_move z_fp z_ss ?_; refine s_wit ?_; intro z_g; (first | refine s_skip rfl z_g z_fp ?_ | (refine s_o [(2, _)] rfl z_g rfl z_su rfl q_load z_fp z_ss ?_)); clear z_g; refine s_wit ?_; intro z_g; (first | refine s_skip rfl z_g z_fp ?_ | (refine s_o [(43, _)] rfl z_g rfl z_su rfl q_move z_fp z_ss ?_)); clear z_g; refine s_wit ?_; intro z_g; (first | refine s_skip rfl z_g z_fp ?_ | (refine s_o [(44, _)] rfl z_g rfl z_su rfl q_fieldAddr z_fp z_ss ?_)); clear z_g; refine s_wit ?_; intro z_g; (first | refine s_skip rfl z_g z_fp ?_ | (refine s_o [(45, _)] rfl z_g rfl z_su rfl q_load z_fp z_ss ?_)); clear z_g; refine s_wit ?_; intro z_g; (first | refine s_skip rfl z_g z_fp ?_ | (refine s_o [(8, _)] rfl z_g rfl z_su rfl q_move z_fp z_ss ?_)); clear z_g; refine s_wit ?_; intro z_g; (first | refine s_skip rfl z_g z_fp ?_ | (refine s_o [(46, _), (47, _)] rfl z_g rfl z_su rfl q_full z_fp z_ss ?_)); clear z_g; refine s_wit ?_; intro z_g; (first | refine s_skip rfl z_g z_fp ?_ | (refine s_o [(48, _)] rfl z_g rfl z_su rfl q_load z_fp z_ss ?_)); clear z_g; refine s_wit ?_; intro z_g; (first | refine s_skip rfl z_g z_fp ?_ | (refine s_o [(49, _)] rfl z_g rfl z_su rfl q_full z_fp z_ss ?_)); clear z_g; refine s_o [(42, _), (50, _)] rfl rfl rfl z_su rfl q_move z_fp z_ss ?_; exact wpS_nil ⟨rfl, rfl⟩)) z_su ?_; clear z_ex)
      ((repeat refine WpM.seq ?_); refine WpM.condF (by (simp (maxSteps := 2000000) (disch := omega) [go_sem, -List.map_map, h1, h2])) ?_)
      refine WpM.skip ?_
      ((repeat refine WpM.seq ?_); have z_ex := (And.intro @b2 True.intro); refine WpM.regPE [] [(2, _), (5, _), (6, _), (7, _), (8, _)] (by (refine s_o [(5, _)] rfl rfl rfl z_su rfl q_move z_fp z_ss ?_; refine s_o [(8, _)] rfl rfl rfl z_su rfl q_move z_fp z_ss ?_; refine s_o [] rfl rfl rfl z_su rfl q_build z_fp z_ss ?_; refine s_o [(52, _), (53, _), (54, _)] rfl rfl rfl z_su rfl q_mapUpdate z_fp z_ss ?_; exact wpS_nil ⟨rfl, rfl⟩)) z_su ?_; clear z_ex)
      refine WpM.norm ?_
      intro nn2 G2 hnn2 hG2 hk2
      have hnn2 : nn2 = nn1 + 15 := hnn2
      have hGk2 : ∀ m k, G2 m = some k → m < nn2 := hk2
      have m2 : G2 (n0 + 2) = some (.map (.int .i64) (updD mm (.int .i64 v) (some (.d (.agg []))))) := by rw [hG2]; (simp (maxSteps := 2000000) (disch := omega) [go_sem, -List.map_map])
      have old2 : ∀ m k, G1 m = some k → m ≠ n0 + 2 → G2 m = some k := fun m k hk e => by
        rw [hG2]
        (simp (maxSteps := 2000000) (disch := omega) [go_sem, -List.map_map, hk, e])
      clear hG2 hk2
      have hmm2 : ∀ u : Nat, (updD mm (.int .i64 v) (some (.d (.agg [])))) (.int .i64 u) = if u ∈ v :: b.seen then some (.d (.agg [])) else none := fun u => by
        unfold updD
        by_cases e : u = v
        · subst e; simp
        · have e' : ¬ (D.int IntKind.i64 (u : Int) = .int .i64 v) := by
            intro h
            injection h with _ h
            exact e (by omega)
          rw [if_neg e', hB1.mms u]
          simp [e]
      have r1 := old2 _ _ b1 (by omega)
      have r3 := old2 _ _ b3 (by omega)
      have r4 := old2 _ _ b4 (by omega)
      have rk1 := old2 _ _ kk1 (by omega)
      have rk2 := old2 _ _ kk2 (by omega)
      have rk3 := old2 _ _ kk3 (by omega)
      have rk5 := old2 _ _ kk5 (by omega)
      have rH : ∀ m k, H m = some k → G2 m = some k := fun m k hk => old2 _ _ (hB1.keep m k hk) (by have := hH m k hk; omega)
      clear old2
      have d3' := hGk2 _ _ r3
      have d4' := hGk2 _ _ r4
      have q3 := nl_get (val := s.rea) (v := v) (by omega)
      obtain ⟨rv, hrv⟩ : ∃ rv, rv = s.rea.getD v 0 := ⟨_, rfl⟩
      rw [← hrv] at q3
      have hcnd : ¬ (l.natAbs ∈ b.seen ∨ s.dep.getD l.natAbs 0 = 0) := by rw [← hve, ← hdv]; exact hcond
      by_cases hr0 : rv = 0
      · have q2 := i8_get (val := s.val) (v := v) (by omega)
        have htri := hw.tri v
        obtain ⟨x, hx⟩ : ∃ x, x = s.val.getD v 0 := ⟨_, rfl⟩
        rw [← hx] at q2 htri
        have hstep : s.blameStep b = ⟨v :: b.seen, b.todo.dropLast, b.out ++ [-(v : Int) * x]⟩ := by
          unfold Sv.blameStep
          rw [hl]
          simp only
          rw [if_neg hcnd, if_pos (by rw [← hve, ← hrv]; exact hr0), ← hve, ← hx]
        rw [hstep] at hf hdec hok'
        have hbn := hb.n
        have hvx : -(v : Int) * x = 0 ∨ -(v : Int) * x = -(v : Int) ∨ -(v : Int) * x = v := by
          rcases htri with e | e | e <;> rw [e] <;> omega
        have hw1 : IntKind.i64.wrap x = x := wrap_id (by omega) (by omega)
        have hw2 : IntKind.i64.wrap (-(v : Int) * x) = -(v : Int) * x := wrap_id (by omega) (by omega)
        have hw3 : IntKind.i64.wrap (-((v : Int) * x)) = -((v : Int) * x) := by rw [← Int.neg_mul]; exact hw2
        have htk : (b.out.map lit).take b.out.length = b.out.map lit := List.take_of_length_le (by simp)
        have hol : b.out.length ≤ 4096 := by
          have h1 := hok.outn
          have := nodup_le_n s.n (b.out.map Int.natAbs) h1 fun u hu => by
            obtain ⟨y, hy, rfl⟩ := List.mem_map.1 hu
            obtain ⟨v', hv', _, rfl⟩ := (hok.out y).1 hy
            have h2 := hw.v_le (hok.seen v' hv').1
            have h3 := hw.tri v'
            obtain ⟨p, hp, e⟩ := hw.pos_of (hok.seen v' hv').1
            have h4 := hw.lit_of (List.getElem_mem hp)
            rw [e] at h4
            have h5 : (-(v' : Int) * s.val.getD v' 0).natAbs = v' := by rw [Int.neg_mul, h4, Int.natAbs_neg, e]
            rw [h5]; exact h2
          simp at this
          omega
        ((repeat refine WpM.seq ?_); have z_ex := (And.intro @r1 (And.intro @rk1 (And.intro @rk3 (And.intro @svBox.eq_1 (And.intro @q3 (And.intro @hvn (And.intro @hr0 True.intro))))))); refine WpM.regPE [] [(2, _), (5, _), (6, _), (7, _), (8, _), (62, _)] (by (refine s_o [(2, _)] rfl rfl rfl z_su rfl q_load z_fp z_ss ?_; refine s_o [(55, _)] rfl rfl rfl z_su rfl q_move z_fp z_ss ?_; refine s_o [(56, _)] rfl rfl rfl z_su rfl q_fieldAddr z_fp z_ss ?_; refine s_o [(57, _)] rfl rfl rfl z_su rfl q_load z_fp z_ss ?_; refine s_o [(8, _)] rfl rfl rfl z_su rfl q_move z_fp z_ss ?_; refine s_o [(58, _), (59, _)] rfl rfl rfl z_su rfl q_full z_fp z_ss ?_; refine s_o [(60, _)] rfl rfl rfl z_su rfl q_load z_fp z_ss ?_; refine s_o [(61, _)] rfl rfl rfl z_su rfl q_full z_fp z_ss ?_; exact wpS_nil ⟨rfl, rfl⟩)) z_su ?_; clear z_ex)
        ((repeat refine WpM.seq ?_); refine WpM.condT (by (simp (maxSteps := 2000000) (disch := omega) [go_sem, -List.map_map, hr0])) ?_)
        ((repeat refine WpM.seq ?_); have z_ex := (And.intro @r1 (And.intro @rk1 (And.intro @rk2 (And.intro @svBox.eq_1 (And.intro @q2 (And.intro @hvn (And.intro @r4 (And.intro @htk (And.intro @hw1 (And.intro @hw2 (And.intro @hw3 (And.intro @wrap_neg (And.intro @wrap_0sub True.intro))))))))))))); refine WpM.regPE [] [(2, _), (5, _), (6, _), (7, _)] (by (refine s_o [(7, _)] rfl rfl rfl z_su rfl q_move z_fp z_ss ?_; refine s_o [(8, _)] rfl rfl rfl z_su rfl q_move z_fp z_ss ?_; refine s_o [(64, _)] rfl rfl rfl z_su rfl q_unOp z_fp z_ss ?_; refine s_o [(2, _)] rfl rfl rfl z_su rfl q_load z_fp z_ss ?_; refine s_o [(66, _)] rfl rfl rfl z_su rfl q_move z_fp z_ss ?_; refine s_o [(67, _)] rfl rfl rfl z_su rfl q_fieldAddr z_fp z_ss ?_; refine s_o [(68, _)] rfl rfl rfl z_su rfl q_load z_fp z_ss ?_; refine s_o [(8, _)] rfl rfl rfl z_su rfl q_move z_fp z_ss ?_; refine s_o [(69, _), (70, _)] rfl rfl rfl z_su rfl q_full z_fp z_ss ?_; refine s_o [(71, _)] rfl rfl rfl z_su rfl q_load z_fp z_ss ?_; refine s_o [(72, _)] rfl rfl rfl z_su rfl q_full z_fp z_ss ?_; refine s_o [(65, _), (73, _)] rfl rfl rfl z_su rfl q_full z_fp z_ss ?_; refine s_o [(74, _)] rfl rfl rfl z_su rfl q_full z_fp z_ss ?_; refine s_o [(63, _), (75, _)] rfl rfl rfl z_su rfl q_full z_fp z_ss ?_; refine s_o [(76, _)] rfl rfl rfl z_su rfl q_move z_fp z_ss ?_; exact wpS_nil ⟨rfl, rfl⟩)) z_su ?_; clear z_ex)
        (refine WpM.exit ?_; (repeat (with_reducible (first | refine thenM_exit ?_ | refine blockM_eq ?_ | refine blockM_ne (by decide) ?_))))
        have e1 : b.out.length + 1 = (b.out ++ [-(v : Int) * x]).length := by simp
        rw [← hdl, e1]
        refine round_norm (x' := (f, ⟨v :: b.seen, b.todo.dropLast, b.out ++ [-(v : Int) * x]⟩)) (Sub.le (l' := [(2, .ptr n0 0), (5, .map (n0 + 2)), (6, .ms nt' 1 0 b.todo.dropLast.length), (7, .ms (nn2 + 21) 1 0 (b.out ++ [-(v : Int) * x]).length)]) z_su) ?_ (by simp only; omega)
        intro G3 hG3
        refine ⟨hf, hok', by simp only at hdec ⊢; omega, by simp only; omega, _, G3, nt', nn2 + 21, updD mm (.int .i64 v) (some (.d (.agg []))), lit l :: ex, rfl, ?_, rfl⟩
        have e2 : n0 + 2 ≠ no := by omega
        have e3 : n0 + 2 ≠ nn2 + 21 := by omega
        have e4 : n0 ≠ no := by omega
        have e5 : n0 ≠ nn2 + 21 := by omega
        have e6 : nt' ≠ nn2 + 21 := by omega
        refine ⟨fun m k hk => ?_, by rw [hG3]; (simp (maxSteps := 2000000) (disch := omega) [go_sem, -List.map_map, r1, e4, e5]), by rw [hG3]; (simp (maxSteps := 2000000) (disch := omega) [go_sem, -List.map_map, m2, e2, e3]), by rw [hG3, ← hrow]; (simp (maxSteps := 2000000) (disch := omega) [go_sem, -List.map_map, r3, lne, e6]), by rw [hG3]; (simp (maxSteps := 2000000) (disch := omega) [go_sem, -List.map_map, lit]), hmm2, by omega, by omega, by omega⟩
        have h8 := hH m k hk
        have h9 := rH m k hk
        have e7 : m ≠ no := by omega
        have e8 : m ≠ nn2 + 21 := by omega
        rw [hG3]
        (simp (maxSteps := 2000000) (disch := omega) [go_sem, -List.map_map, h9, e7, e8])
      · obtain ⟨q, hq⟩ : ∃ q, rv = q + 1 := ⟨rv - 1, by omega⟩
        have hstep : s.blameStep b = ⟨v :: b.seen, b.todo.dropLast ++ s.cs.getD q [], b.out⟩ := by
          unfold Sv.blameStep
          rw [hl]
          simp only
          rw [if_neg hcnd, if_neg (by rw [← hve, ← hrv]; exact hr0), ← hve, ← hrv, hq, Nat.add_sub_cancel]
        rw [hstep] at hf hdec hok'
        have hqc : q < s.cs.length := by
          obtain ⟨p, hp, e⟩ := hw.pos_of (Sv.has_abs.1 lh)
          exact (hw.why p hp q (by rw [e, ← hve, ← hrv, hq])).1
        obtain ⟨c', hc'⟩ : ∃ c', c' = s.cs.getD q [] := ⟨_, rfl⟩
        have hcl' : c'.length ≤ 1000000 := by rw [hc']; exact hb.cl q
        have q5' : (s.cs.map fun c => V.d (D.sl (c.map (D.int .i64))))[q]? = some (.d (.sl (c'.map (D.int .i64)))) := by rw [hc']; exact cl_get hqc
        have hrq : (rv : Int) - 1 = (q : Int) := by omega
        have htk : (b.todo.map lit ++ ex).take (b.todo.length - 1) = b.todo.dropLast.map lit := by
          rw [hrow, List.take_append_of_le_length (by simp), List.take_of_length_le (by simp)]
        have hbig : b.todo.length ≤ 5000000000 := by omega
        have hokc : (c'.map (D.int .i64)).all (okEl 1) = true := by simp [okEl, D.cells, D.one]
        have hcs := hb.cs
        ((repeat refine WpM.seq ?_); have z_ex := (And.intro @r1 (And.intro @rk1 (And.intro @rk3 (And.intro @svBox.eq_1 (And.intro @q3 (And.intro @hvn (And.intro @hr0 True.intro))))))); refine WpM.regPE [] [(2, _), (5, _), (6, _), (7, _), (8, _), (62, _)] (by (refine s_o [(2, _)] rfl rfl rfl z_su rfl q_load z_fp z_ss ?_; refine s_o [(55, _)] rfl rfl rfl z_su rfl q_move z_fp z_ss ?_; refine s_o [(56, _)] rfl rfl rfl z_su rfl q_fieldAddr z_fp z_ss ?_; refine s_o [(57, _)] rfl rfl rfl z_su rfl q_load z_fp z_ss ?_; refine s_o [(8, _)] rfl rfl rfl z_su rfl q_move z_fp z_ss ?_; refine s_o [(58, _), (59, _)] rfl rfl rfl z_su rfl q_full z_fp z_ss ?_; refine s_o [(60, _)] rfl rfl rfl z_su rfl q_load z_fp z_ss ?_; refine s_o [(61, _)] rfl rfl rfl z_su rfl q_full z_fp z_ss ?_; exact wpS_nil ⟨rfl, rfl⟩)) z_su ?_; clear z_ex)
        ((repeat refine WpM.seq ?_); refine WpM.condF (by (simp (maxSteps := 2000000) (disch := omega) [go_sem, -List.map_map, hr0])) ?_)
        refine WpM.skip ?_
        ((repeat refine WpM.seq ?_); have z_ex := (And.intro @r1 (And.intro @rk1 (And.intro @rk3 (And.intro @rk5 (And.intro @svBox.eq_1 (And.intro @q3 (And.intro @hvn (And.intro @hrq (And.intro @hqc (And.intro @q5' (And.intro @r3 (And.intro @htk (And.intro @hokc (And.intro @ints.eq_1 (And.intro @wrap_id True.intro))))))))))))))); refine WpM.drwPE [] [(2, _), (5, _), (6, _), (7, _)] mixed (slots_of (by kernel_rfl)) (by kernel_rfl) [] (unord_of (by kernel_rfl)) (by (refine d_o [(6, _)] rfl rfl rfl z_su rfl q_move z_fp z_ss rfl ?_; refine d_o [(2, _)] rfl rfl rfl z_su rfl q_load z_fp z_ss rfl ?_; refine d_o [(78, _)] rfl rfl rfl z_su rfl q_move z_fp z_ss rfl ?_; refine d_o [(79, _)] rfl rfl rfl z_su rfl q_fieldAddr z_fp z_ss rfl ?_; refine d_o [(80, _)] rfl rfl rfl z_su rfl q_load z_fp z_ss rfl ?_; refine d_o [(2, _)] rfl rfl rfl z_su rfl q_load z_fp z_ss rfl ?_; refine d_o [(82, _)] rfl rfl rfl z_su rfl q_move z_fp z_ss rfl ?_; refine d_o [(83, _)] rfl rfl rfl z_su rfl q_fieldAddr z_fp z_ss rfl ?_; refine d_o [(84, _)] rfl rfl rfl z_su rfl q_load z_fp z_ss rfl ?_; refine d_o [(8, _)] rfl rfl rfl z_su rfl q_move z_fp z_ss rfl ?_; refine d_o [(85, _), (86, _)] rfl rfl rfl z_su rfl q_full z_fp z_ss rfl ?_; refine d_o [(87, _)] rfl rfl rfl z_su rfl q_load z_fp z_ss rfl ?_; refine d_o [(88, _)] rfl rfl rfl z_su rfl q_full z_fp z_ss rfl ?_; refine d_o [(81, _), (89, _)] rfl rfl rfl z_su rfl q_full z_fp z_ss rfl ?_; refine d_o [(90, _)] rfl rfl rfl z_su rfl q_load z_fp z_ss rfl ?_; refine d_o [(77, _), (91, _)] rfl rfl rfl z_su rfl q_full z_fp z_ss rfl ?_; refine d_o [(92, _)] rfl rfl rfl z_su rfl q_move z_fp z_ss rfl ?_; exact d_end z_mt z_sn)) z_su ?_; clear z_ex)
        have e1 : b.todo.length - 1 + c'.length = (b.todo.dropLast ++ s.cs.getD q []).length := by simp [hc', hdl]
        rw [e1]
        refine blockM_norm ?_
        refine round_norm (x' := (f, ⟨v :: b.seen, b.todo.dropLast ++ s.cs.getD q [], b.out⟩)) (Sub.le (l' := [(2, .ptr n0 0), (5, .map (n0 + 2)), (6, .ms (nn2 + 23) 1 0 (b.todo.dropLast ++ s.cs.getD q []).length), (7, .ms no 1 0 b.out.length)]) z_su) ?_ (by simp only; omega)
        intro G3 hG3
        refine ⟨hf, hok', by simp only at hdec ⊢; omega, by simp only; omega, _, G3, nn2 + 23, no, updD mm (.int .i64 v) (some (.d (.agg []))), [], rfl, ?_, rfl⟩
        have e2 : n0 + 2 ≠ nt' := by omega
        have e3 : n0 + 2 ≠ nn2 + 23 := by omega
        have e4 : n0 ≠ nt' := by omega
        have e5 : n0 ≠ nn2 + 23 := by omega
        have e6 : no ≠ nn2 + 23 := by omega
        have e9 : no ≠ nt' := Ne.symm lne
        have hrw : (List.map lit b.todo).dropLast ++ List.map V.d (List.map (D.int IntKind.i64) c') = (b.todo.dropLast ++ s.cs.getD q []).map lit := by
          rw [← hc', List.map_append, List.map_dropLast, List.map_map]
          rfl
        refine ⟨fun m k hk => ?_, by rw [hG3]; (simp (maxSteps := 2000000) (disch := omega) [go_sem, -List.map_map, r1, e4, e5]), by rw [hG3]; (simp (maxSteps := 2000000) (disch := omega) [go_sem, -List.map_map, m2, e2, e3]), by rw [hG3, hrw]; (simp (maxSteps := 2000000) (disch := omega) [go_sem, -List.map_map]), by rw [hG3]; (simp (maxSteps := 2000000) (disch := omega) [go_sem, -List.map_map, r4, e9, e6]), hmm2, by omega, by omega, by omega⟩
        have h8 := hH m k hk
        have h9 := rH m k hk
        have e7 : m ≠ nt' := by omega
        have e8 : m ≠ nn2 + 23 := by omega
        rw [hG3]
        (simp (maxSteps := 2000000) (disch := omega) [go_sem, -List.map_map, h9, e7, e8])
end Go.Proofs.Ytafeehlpmdligaa
