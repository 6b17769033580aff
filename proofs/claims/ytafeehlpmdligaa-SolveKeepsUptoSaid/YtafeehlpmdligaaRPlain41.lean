/- proof.(*checker).plain: does a clause follow at once? -/
import Derived.Test.YtafeehlpmdligaaROp
import Derived.Test.YtafeehlpmdligaaRNew40
namespace Go.Proofs.Ytafeehlpmdligaa
open Go.RowKit M
set_option linter.unusedSimpArgs false
set_option linter.unusedVariables false
theorem takeStep_head {K K' : Int → Bool} {a u : Int} {q q' : List Int} (h : takeStep K (a :: q) u = some (K', q')) : ∃ q2, q' = a :: q2 := by
  unfold takeStep at h
  split at h
  · cases h
  · split at h
    · injection h with h
      injection h with _ h
      exact ⟨q, h.symm⟩
    · injection h with h
      injection h with _ h
      exact ⟨q ++ [u], h.symm⟩
theorem lookStep_head {K K' : Int → Bool} {a : Int} {q q' c : List Int} (h : lookStep K (a :: q) c = some (K', q')) : ∃ q2, q' = a :: q2 := by
  unfold lookStep at h
  split at h
  · injection h with h
    injection h with _ h
    exact ⟨q, h.symm⟩
  · split at h
    · cases h
    · exact takeStep_head h
theorem mem_mass {d : List Int} : ∀ {cs : List (List Int)}, d ∈ cs → d.length ≤ mass cs
  | [], hd => by cases hd
  | a :: r, hd => by
    simp only [mass]
    rcases List.mem_cons.1 hd with rfl | hd
    · omega
    · have := mem_mass hd; omega
theorem Kn.subP {cs : List (List Int)} {g : List Int} {K : Int → Bool} {P q : List Int} {a : Int} (h : Kn cs g K P (a :: q)) : SubS (memB (P ++ [a])) K := by
  intro l hl
  simp only [memB, decide_eq_true_eq, List.mem_append, List.mem_singleton] at hl
  refine (h.mem l).2 ?_
  simp only [List.mem_append, List.mem_cons]
  rcases hl with e | e
  · exact .inl e
  · exact .inr (.inl e)
theorem Kn.shift {cs : List (List Int)} {g : List Int} {K : Int → Bool} {P q : List Int} {a : Int} (h : Kn cs g K P (a :: q)) : Kn cs g K (P ++ [a]) q := by
  have e : P ++ [a] ++ q = P ++ a :: q := by simp
  exact ⟨fun l => by rw [e]; exact h.mem l, by rw [e]; exact h.nodup, by rw [e]; exact h.range, h.apart, h.sub⟩
set_option maxHeartbeats 8000000 in
theorem plain41 (H1 : Nat → Option Blk) (ck : Nat) (cs : List (List Int)) (c : List Int) (S : St) (h : CkS H1 ck cs S.get) (hb : mass cs ≤ 1000000000) (hcs : ∀ c ∈ cs, ∀ l ∈ c, l ≠ 0 ∧ -4096 ≤ l ∧ l ≤ 4096) (hc : ∀ l ∈ c, l ≠ 0 ∧ -4096 ≤ l ∧ l ≤ 4096) (hcl : c.length ≤ 1000000000) :
    PureS Try.prog 41 [.ptr ck 0, .d (ints c)] (.d (.bool (followsB cs c))) S := by
  refine CallM.pure' rfl (CallM.start (n := 67) Try.func41 rfl rfl (by simp) (by simp only [argL, Nat.reduceAdd] <;> rfl) ?_)
  intro hH
  obtain ⟨H, hHe⟩ : ∃ H, H = S.get := ⟨_, rfl⟩
  obtain ⟨n0, hne⟩ : ∃ n0, n0 = S.next := ⟨_, rfl⟩
  rw [← hHe, ← hne] at hH ⊢
  rw [← hHe] at h
  obtain ⟨nc, na, ns, am, nr, hE⟩ := h
  have hlm := len_mass cs
  have hsl := singles_len cs
  ((repeat refine WpM.seq ?_); have z_ex := True.intro; refine WpM.regPE [] [(1, _), (2, _)] (by (refine s_o [(0, _)] rfl rfl rfl z_su rfl q_box z_fp z_ss ?_; refine s_o [] rfl rfl rfl z_su rfl q_move z_fp z_ss ?_; exact wpS_nil ⟨rfl, rfl⟩)) z_su ?_; clear z_ex)
  ((repeat refine WpM.seq ?_); have z_ex := True.intro; refine WpM.regPE [] [(1, _), (2, _), (5, _)] (by (refine s_o [] rfl rfl rfl z_su rfl q_makeMap z_fp z_ss ?_; refine s_o [] rfl rfl rfl z_su rfl q_alloc z_fp z_ss ?_; refine s_o [(5, _), (15, _)] rfl rfl rfl z_su rfl q_store z_fp z_ss ?_; exact wpS_nil ⟨rfl, rfl⟩)) z_su ?_; clear z_ex)
  ((repeat refine WpM.seq ?_); have z_ex := True.intro; refine WpM.regPE [] [(1, _), (2, _), (5, _), (6, _)] (by (refine s_o [] rfl rfl rfl z_su rfl q_alloc z_fp z_ss ?_; exact wpS_nil ⟨rfl, rfl⟩)) z_su ?_; clear z_ex)
  ((repeat refine WpM.seq ?_); have z_ex := (And.intro @ti65x True.intro); refine WpM.regPE [] [(1, _), (2, _), (5, _), (6, _), (7, _)] (by (refine s_o [(5, _), (6, _)] rfl rfl rfl z_su rfl q_move z_fp z_ss ?_; refine s_o [] rfl rfl rfl z_su rfl q_alloc z_fp z_ss ?_; refine s_o [(7, _), (16, _)] rfl rfl rfl z_su rfl q_store z_fp z_ss ?_; exact wpS_nil ⟨rfl, rfl⟩)) z_su ?_; clear z_ex)
  ((repeat refine WpM.seq ?_); have z_ex := True.intro; refine WpM.regPE [] [(1, _), (2, _), (6, _), (7, _), (8, _)] (by (refine s_o [(2, _), (5, _), (7, _)] rfl rfl rfl z_su rfl q_move z_fp z_ss ?_; refine s_o [(17, _)] rfl rfl rfl z_su rfl q_move z_fp z_ss ?_; exact wpS_nil ⟨rfl, rfl⟩)) z_su ?_; clear z_ex)
  ((repeat refine WpM.seq ?_); have z_ex := (And.intro @ints.eq_1 True.intro); refine WpM.regPE [] [(2, _), (6, _), (7, _), (8, _), (18, _), (19, _), (20, _)] (by (refine s_o [(1, _)] rfl rfl rfl z_su rfl q_move z_fp z_ss ?_; refine s_o [(18, _)] rfl rfl rfl z_su rfl q_full z_fp z_ss ?_; refine s_o [] rfl rfl rfl z_su rfl q_move z_fp z_ss ?_; exact wpS_nil ⟨rfl, rfl⟩)) z_su ?_; clear z_ex)
  refine Upd.wp (Upd.ghostIn (cs := [.nil]) (n0 + 5) 0 1 (by (simp (maxSteps := 2000000) (disch := omega) [go_sem, -List.map_map])) (.inl rfl) (Upd.done ?_))
  refine WpM.norm ?_
  intro nx0 G0 hnx0 hG0 hk0
  obtain ⟨H0, hH0⟩ : ∃ H0, H0 = St.get ⟨0, [(n0, some (Blk.box [V.ptr ck 0])), (n0 + 3, some (Blk.box [V.map (n0 + 2)])), (n0 + 7, some (Blk.box [V.fn 64 [V.ptr (n0 + 3) 0, V.ptr (n0 + 5) 0]]))], H⟩ := ⟨_, rfl⟩
  have fresh : ∀ m, n0 ≤ m → H m = none := fun m hm => by
    cases e : H m with
    | none => rfl
    | some k => have := hH _ _ e; omega
  have e1 : H0 n0 = some (.box [.ptr ck 0]) := by rw [hH0]; (simp (maxSteps := 2000000) (disch := omega) [go_sem, -List.map_map])
  have e2 : H0 (n0 + 3) = some (.box [.map (n0 + 2)]) := by rw [hH0]; (simp (maxSteps := 2000000) (disch := omega) [go_sem, -List.map_map])
  have e3 : H0 (n0 + 7) = some (.box [.fn 64 [.ptr (n0 + 3) 0, .ptr (n0 + 5) 0]]) := by rw [hH0]; (simp (maxSteps := 2000000) (disch := omega) [go_sem, -List.map_map])
  have eH : ∀ m k, H m = some k → H0 m = some k := by
    intro m k hm
    have := hH _ _ hm
    rw [hH0]
    (simp (maxSteps := 2000000) (disch := omega) [go_sem, -List.map_map, hm])
  have old : ∀ m k, H m = some k → G0 m = some k := by
    intro m k hm
    have := hH _ _ hm
    rw [hG0]
    (simp (maxSteps := 2000000) (disch := omega) [go_sem, -List.map_map, hm])
  have q1 : G0 n0 = some (.box [.ptr ck 0]) := by rw [hG0]; (simp (maxSteps := 2000000) (disch := omega) [go_sem, -List.map_map])
  have q2 : G0 (n0 + 3) = some (.box [.map (n0 + 2)]) := by rw [hG0]; (simp (maxSteps := 2000000) (disch := omega) [go_sem, -List.map_map])
  have q3 : G0 (n0 + 7) = some (.box [.fn 64 [.ptr (n0 + 3) 0, .ptr (n0 + 5) 0]]) := by rw [hG0]; (simp (maxSteps := 2000000) (disch := omega) [go_sem, -List.map_map])
  have q4 : G0 (n0 + 2) = some (.map (.int .i64) fun _ => none) := by rw [hG0]; (simp (maxSteps := 2000000) (disch := omega) [go_sem, -List.map_map])
  have q5 : G0 (n0 + 5) = some (.box [.ms (n0 + 14) 1 0 0]) := by rw [hG0]; (simp (maxSteps := 2000000) (disch := omega) [go_sem, -List.map_map, List.set])
  have q6 : G0 (n0 + 14) = some (.row 1 []) := by rw [hG0]; (simp (maxSteps := 2000000) (disch := omega) [go_sem, -List.map_map])
  have hP0 : PlS H0 (n0 + 3) (n0 + 2) (n0 + 5) (fun _ => false) [] ⟨nx0, [], G0⟩ := by
    refine ⟨?_, e2, by rw [hH0]; (simp (maxSteps := 2000000) (disch := omega) [go_sem, -List.map_map, fresh]), by rw [hH0]; (simp (maxSteps := 2000000) (disch := omega) [go_sem, -List.map_map, fresh]), ?_, n0 + 14, 0, [], by rw [hH0]; (simp (maxSteps := 2000000) (disch := omega) [go_sem, -List.map_map, fresh]), q5, q6, rfl, rfl⟩
    · intro m k hm
      show G0 m = some k
      by_cases h1 : m = n0
      · subst h1; rw [← hm, e1]; exact q1
      · by_cases h2 : m = n0 + 3
        · subst h2; rw [← hm, e2]; exact q2
        · by_cases h3 : m = n0 + 7
          · subst h3; rw [← hm, e3]; exact q3
          · rw [hH0] at hm
            simp only [st_get, lget, h1, h2, h3, if_false] at hm
            exact old m k hm
    · show G0 (n0 + 2) = _
      rw [q4]
      congr 2
      funext d
      unfold setM
      split <;> simp
  clear q1 q2 q3 q4 q5 q6 old hG0 hnx0 hk0 hH0
  have kck := eH _ _ hE.box
  have kna := eH _ _ hE.at_.map
  have knc := eH _ _ hE.rows
  have kns := eH _ _ hE.single
  have hget : ∀ n d, cs[n]? = some d → (cs.map fun c => V.d (ints c))[n]? = some (V.d (ints d)) := fun n d hd => by rw [List.getElem?_map, hd]; rfl
  have hml : ∀ d ∈ cs, d.length ≤ 1000000000 := fun d hd => Nat.le_trans (mem_mass hd) hb
  ((repeat refine WpM.seq ?_); refine WpM.block ?_)
  refine WpM.loop (fun (j : Nat) fr S => j ≤ c.length ∧ ∃ K q nx G, S = ⟨nx, [], G⟩ ∧ PlS H0 (n0 + 3) (n0 + 2) (n0 + 5) K q ⟨nx, [], G⟩ ∧ Kn cs (c.map (- ·)) K [] q ∧ (∀ x ∈ c.take j, K (-x) = true) ∧
      fr = frOf [(2, .ptr n0 0), (6, .ptr (n0 + 5) 0), (7, .ptr (n0 + 7) 0), (8, .fn 65 [.ptr n0 0, .ptr (n0 + 3) 0, .ptr (n0 + 7) 0]), (18, .d (ints c)), (19, .d (.int .i64 c.length)), (20, .d (.int .i64 j))]) (fun j => c.length - j) 0 (St.Le.refl _) (frLe_frOf (by (simp (maxSteps := 2000000) (disch := omega) [go_sem, -List.map_map, ints]))) ⟨by omega, _, [], _, _, rfl, hP0, Kn.start _ _, by simp, rfl⟩ ?_
  clear hP0
  rintro j fr S' ⟨hj, K, q, nx, G, rfl, hP, hK, hdone, rfl⟩
  have hql := hK.len
  simp only [List.length_nil, Nat.zero_add] at hql
  have k7 : G (n0 + 7) = _ := hP.keep _ _ e3
  ((repeat refine WpM.seq ?_); have z_ex := True.intro; refine WpM.regPE [] [(2, _), (6, _), (7, _), (8, _), (18, _), (19, _), (20, _), (21, _)] (by (refine s_o [(19, _), (20, _)] rfl rfl rfl z_su rfl q_full z_fp z_ss ?_; exact wpS_nil ⟨rfl, rfl⟩)) z_su ?_; clear z_ex)
  by_cases hlt : j < c.length
  · ((repeat refine WpM.seq ?_); refine WpM.condT (by (simp (maxSteps := 2000000) (disch := omega) [go_sem, -List.map_map, hlt])) ?_)
    refine WpM.skip ?_
    ((repeat refine WpM.seq ?_); refine WpM.block ?_)
    have hl := hc c[j] (List.getElem_mem _)
    have htk : c.take (j + 1) = c.take j ++ [c[j]] := List.take_succ_eq_append_getElem hlt
    have hmem : -c[j] ∈ c.map (- ·) := List.mem_map_of_mem (List.getElem_mem _)
    obtain ⟨l, hle⟩ : ∃ l, l = c[j] := ⟨_, rfl⟩
    have hgl : (c.map (D.int .i64))[j]? = some (.int .i64 l) := by simp [hlt, hle]
    rw [← hle] at hl htk hmem
    obtain ⟨hl0, hl1, hl2⟩ := hl
    ((repeat refine WpM.seq ?_); have z_ex := (And.intro @hgl (And.intro @ints.eq_1 True.intro)); refine WpM.regPE [] [(2, _), (6, _), (7, _), (8, _), (10, _), (18, _), (19, _), (20, _)] (by (refine s_o [(18, _), (20, _)] rfl rfl rfl z_su rfl q_full z_fp z_ss ?_; refine s_o [(22, _)] rfl rfl rfl z_su rfl q_load z_fp z_ss ?_; refine s_o [(23, _)] rfl rfl rfl z_su rfl q_move z_fp z_ss ?_; exact wpS_nil ⟨rfl, rfl⟩)) z_su ?_; clear z_ex)
    have hC := take64 (hP.same (S' := ⟨nx + 7, [], G⟩) rfl) (-l) (by omega) (by omega) (by omega)
    have hT := hK.take (l := -l) (by omega) (by omega) (fun T hT => hT.has _ hmem)
    cases ht : takeStep K q (-l) with
    | none =>
      simp only [ht] at hC hT
      ((repeat refine WpM.seq ?_); have z_ex := (And.intro @k7 (And.intro @ti65x (And.intro @wrap_neg (And.intro @wrap_0sub True.intro)))); refine WpM.regP [] ?_; intro K hK; refine s_o [(7, _)] rfl rfl rfl z_su rfl q_load z_fp z_ss ?_; refine s_o [(10, _)] rfl rfl rfl z_su rfl q_move z_fp z_ss ?_; refine s_o [(25, _)] rfl rfl rfl z_su rfl q_unOp z_fp z_ss ?_; refine s_call (callOf_eq rfl rfl z_lk (mlk_tmp z_lk mlk_nil)) hC rfl rfl z_ip ?_; rintro _ z_S ⟨rfl, hP'⟩; refine s_put z_fp ?_; refine s_o [(27, _)] rfl rfl rfl z_su rfl q_unOp z_fp z_ss ?_; refine s_endE [(2, _), (6, _), (7, _), (8, _), (18, _), (19, _), (20, _), (28, _)] hK z_su ?_; clear hK K; clear z_ex)
      ((repeat refine WpM.seq ?_); refine WpM.condT (by (simp (maxSteps := 2000000) (disch := omega) [go_sem, -List.map_map])) ?_)
      ((repeat refine WpM.seq ?_); have z_ex := True.intro; refine WpM.regPE [] [(4, _)] (by (refine s_o [] rfl rfl rfl z_su rfl q_move z_fp z_ss ?_; exact wpS_nil ⟨rfl, rfl⟩)) z_su ?_; clear z_ex)
      refine WpM.ret ?_
      exact ⟨.inr rfl, Upd.done ⟨.d (.bool true), (by (simp (maxSteps := 2000000) (disch := omega) [go_sem, -List.map_map, resV, resVs, resV1])), by rw [followsB_true.2 hT], fun m k hm hk => hP'.keep m k (eH m k hk)⟩⟩
    | some p =>
      obtain ⟨K', q'⟩ := p
      simp only [ht] at hC hT
      ((repeat refine WpM.seq ?_); have z_ex := (And.intro @k7 (And.intro @ti65x (And.intro @wrap_neg (And.intro @wrap_0sub True.intro)))); refine WpM.regP [] ?_; intro K hK; refine s_o [(7, _)] rfl rfl rfl z_su rfl q_load z_fp z_ss ?_; refine s_o [(10, _)] rfl rfl rfl z_su rfl q_move z_fp z_ss ?_; refine s_o [(25, _)] rfl rfl rfl z_su rfl q_unOp z_fp z_ss ?_; refine s_call (callOf_eq rfl rfl z_lk (mlk_tmp z_lk mlk_nil)) hC rfl rfl z_ip ?_; rintro _ z_S ⟨rfl, hP'⟩; refine s_put z_fp ?_; refine s_o [(27, _)] rfl rfl rfl z_su rfl q_unOp z_fp z_ss ?_; refine s_endE [(2, _), (6, _), (7, _), (8, _), (18, _), (19, _), (20, _), (28, _)] hK z_su ?_; clear hK K; clear z_ex)
      ((repeat refine WpM.seq ?_); refine WpM.condF (by (simp (maxSteps := 2000000) (disch := omega) [go_sem, -List.map_map])) ?_)
      refine WpM.skip ?_
      refine WpM.norm ?_
      intro nx1 G1 hnx1 hG1 hk1
      have hP1 : PlS H0 (n0 + 3) (n0 + 2) (n0 + 5) K' q' ⟨nx1, [], G1⟩ := hP'.same (show St.get ⟨nx1, [], G1⟩ = _ from hG1)
      clear hG1 hnx1 hP'
      ((repeat refine WpM.seq ?_); have z_ex := (And.intro @wrap_id True.intro); refine WpM.regPE [] [(2, _), (6, _), (7, _), (8, _), (18, _), (19, _), (20, _)] (by (refine s_o [(20, _)] rfl rfl rfl z_su rfl q_full z_fp z_ss ?_; refine s_o [(29, _)] rfl rfl rfl z_su rfl q_move z_fp z_ss ?_; exact wpS_nil ⟨rfl, rfl⟩)) z_su ?_; clear z_ex)
      refine round_end (x' := j + 1) (St.Le.refl _) (frLe_frOf (by (simp (maxSteps := 2000000) (disch := omega) [go_sem, -List.map_map, wrap_id]))) ⟨by omega, K', q', _, _, rfl, hP1.same rfl, hT.1, ?_, rfl⟩ (by omega)
      intro x hx
      rw [htk, List.mem_append, List.mem_singleton] at hx
      rcases hx with hx | rfl
      · exact hT.2.1 _ (hdone x hx)
      · exact hT.2.2
  · ((repeat refine WpM.seq ?_); refine WpM.condF (by (simp (maxSteps := 2000000) (disch := omega) [go_sem, -List.map_map, hlt])) ?_)
    (refine WpM.exit ?_; (repeat (with_reducible (first | refine thenM_exit ?_ | refine blockM_eq ?_ | refine blockM_ne (by decide) ?_))))
    obtain rfl : j = c.length := by omega
    rw [List.take_length] at hdone
    have hhas : ∀ x ∈ c.map (- ·), K x = true := by
      intro x hx
      obtain ⟨y, hy, rfl⟩ := List.mem_map.1 hx
      exact hdone y hy
    clear hdone
    have m1 : G n0 = _ := hP.keep _ _ e1
    have m2 : G ck = _ := hP.keep _ _ kck
    ((repeat refine WpM.seq ?_); have z_ex := (And.intro @m1 (And.intro @m2 True.intro)); refine WpM.regPE [] [(2, _), (6, _), (8, _), (33, _), (34, _), (35, _)] (by (refine s_o [(2, _)] rfl rfl rfl z_su rfl q_load z_fp z_ss ?_; refine s_o [(30, _)] rfl rfl rfl z_su rfl q_move z_fp z_ss ?_; refine s_o [(31, _)] rfl rfl rfl z_su rfl q_fieldAddr z_fp z_ss ?_; refine s_o [(32, _)] rfl rfl rfl z_su rfl q_load z_fp z_ss ?_; refine s_o [(33, _)] rfl rfl rfl z_su rfl q_full z_fp z_ss ?_; refine s_o [] rfl rfl rfl z_su rfl q_move z_fp z_ss ?_; exact wpS_nil ⟨rfl, rfl⟩)) z_su ?_; clear z_ex)
    ((repeat refine WpM.seq ?_); refine WpM.block ?_)
    refine WpM.loop (fun (j : Nat) fr S => j ≤ (singles cs).length ∧ ∃ K q nx G, S = ⟨nx, [], G⟩ ∧ PlS H0 (n0 + 3) (n0 + 2) (n0 + 5) K q ⟨nx, [], G⟩ ∧ Kn cs (c.map (- ·)) K [] q ∧ (∀ x ∈ c.map (- ·), K x = true) ∧ (∀ n ∈ (singles cs).take j, ∀ d, cs[n]? = some d → Looked (memB []) K d) ∧
        fr = frOf [(2, .ptr n0 0), (6, .ptr (n0 + 5) 0), (8, .fn 65 [.ptr n0 0, .ptr (n0 + 3) 0, .ptr (n0 + 7) 0]), (33, .ms ns 1 0 (singles cs).length), (34, .d (.int .i64 (singles cs).length)), (35, .d (.int .i64 j))]) (fun j => (singles cs).length - j) 0 (St.Le.refl _) (frLe_frOf (by (simp (maxSteps := 2000000) (disch := omega) [go_sem, -List.map_map]))) ⟨by omega, K, q, _, _, rfl, hP.same rfl, hK, hhas, by simp, rfl⟩ ?_
    clear hP hK hhas k7 m1 m2 hlt hql
    clear K q G nx
    rintro j fr S' ⟨hj, K, q, nx, G, rfl, hP, hK, hhas, hlk, rfl⟩
    have hql := hK.len
    simp only [List.length_nil, Nat.zero_add] at hql
    ((repeat refine WpM.seq ?_); have z_ex := True.intro; refine WpM.regPE [] [(2, _), (6, _), (8, _), (33, _), (34, _), (35, _), (36, _)] (by (refine s_o [(34, _), (35, _)] rfl rfl rfl z_su rfl q_full z_fp z_ss ?_; exact wpS_nil ⟨rfl, rfl⟩)) z_su ?_; clear z_ex)
    by_cases hlt : j < (singles cs).length
    · ((repeat refine WpM.seq ?_); refine WpM.condT (by (simp (maxSteps := 2000000) (disch := omega) [go_sem, -List.map_map, hlt])) ?_)
      refine WpM.skip ?_
      ((repeat refine WpM.seq ?_); refine WpM.block ?_)
      have hsm : (singles cs)[j] ∈ singles cs := List.getElem_mem _
      have htk : (singles cs).take (j + 1) = (singles cs).take j ++ [(singles cs)[j]] := List.take_succ_eq_append_getElem hlt
      obtain ⟨n, hne'⟩ : ∃ n, n = (singles cs)[j] := ⟨_, rfl⟩
      have hgs : ((singles cs).map nlit)[j]? = some (V.d (.int .i64 n)) := by rw [List.getElem?_map, List.getElem?_eq_getElem hlt, ← hne']; rfl
      rw [← hne'] at hsm htk
      clear hne'
      obtain ⟨d, hd, hds⟩ := mem_singles.1 hsm
      obtain ⟨hnl, hde⟩ := List.getElem?_eq_some_iff.1 hd
      have hdm : d ∈ cs := List.mem_of_getElem? hd
      have m3 : G ns = _ := hP.keep _ _ kns
      ((repeat refine WpM.seq ?_); have z_ex := (And.intro @m3 (And.intro @hgs True.intro)); refine WpM.regPE [] [(2, _), (6, _), (8, _), (12, _), (33, _), (34, _), (35, _)] (by (refine s_o [(33, _), (35, _)] rfl rfl rfl z_su rfl q_full z_fp z_ss ?_; refine s_o [(37, _)] rfl rfl rfl z_su rfl q_load z_fp z_ss ?_; refine s_o [(38, _)] rfl rfl rfl z_su rfl q_move z_fp z_ss ?_; exact wpS_nil ⟨rfl, rfl⟩)) z_su ?_; clear z_ex)
      have hC := look65 (hP.same (S' := ⟨nx + 6, [], G⟩) rfl) n cs.length d _ (hget n d hd) (by simp) hnl (hcs d hdm) (by have := hml d hdm; omega) n0 (n0 + 7) ck nc _ _ e1 kck knc e3 (by omega)
      have hT := hK.look hdm (hcs d hdm)
      cases ht : lookStep K q d with
      | none =>
        simp only [ht] at hC hT
        ((repeat refine WpM.seq ?_); have z_ex := True.intro; refine WpM.regP [] ?_; intro K hK; refine s_o [(8, _)] rfl rfl rfl z_su rfl q_move z_fp z_ss ?_; refine s_o [(12, _)] rfl rfl rfl z_su rfl q_move z_fp z_ss ?_; refine s_call (callOf_eq rfl rfl z_lk (mlk_tmp z_lk mlk_nil)) hC rfl rfl z_ip ?_; rintro _ z_S ⟨rfl, hP'⟩; refine s_put z_fp ?_; refine s_o [(41, _)] rfl rfl rfl z_su rfl q_unOp z_fp z_ss ?_; refine s_endE [(2, _), (6, _), (8, _), (33, _), (34, _), (35, _), (42, _)] hK z_su ?_; clear hK K; clear z_ex)
        ((repeat refine WpM.seq ?_); refine WpM.condT (by (simp (maxSteps := 2000000) (disch := omega) [go_sem, -List.map_map])) ?_)
        ((repeat refine WpM.seq ?_); have z_ex := True.intro; refine WpM.regPE [] [(4, _)] (by (refine s_o [] rfl rfl rfl z_su rfl q_move z_fp z_ss ?_; exact wpS_nil ⟨rfl, rfl⟩)) z_su ?_; clear z_ex)
        refine WpM.ret ?_
        exact ⟨.inr rfl, Upd.done ⟨.d (.bool true), (by (simp (maxSteps := 2000000) (disch := omega) [go_sem, -List.map_map, resV, resVs, resV1])), by rw [followsB_true.2 hT], fun m k hm hk => hP' m k (eH m k hk)⟩⟩
      | some p =>
        obtain ⟨K', q'⟩ := p
        simp only [ht] at hC hT
        ((repeat refine WpM.seq ?_); have z_ex := True.intro; refine WpM.regP [] ?_; intro K hK; refine s_o [(8, _)] rfl rfl rfl z_su rfl q_move z_fp z_ss ?_; refine s_o [(12, _)] rfl rfl rfl z_su rfl q_move z_fp z_ss ?_; refine s_call (callOf_eq rfl rfl z_lk (mlk_tmp z_lk mlk_nil)) hC rfl rfl z_ip ?_; rintro _ z_S ⟨rfl, hP'⟩; refine s_put z_fp ?_; refine s_o [(41, _)] rfl rfl rfl z_su rfl q_unOp z_fp z_ss ?_; refine s_endE [(2, _), (6, _), (8, _), (33, _), (34, _), (35, _), (42, _)] hK z_su ?_; clear hK K; clear z_ex)
        ((repeat refine WpM.seq ?_); refine WpM.condF (by (simp (maxSteps := 2000000) (disch := omega) [go_sem, -List.map_map])) ?_)
        refine WpM.skip ?_
        refine WpM.norm ?_
        intro nx1 G1 hnx1 hG1 hk1
        have hP1 : PlS H0 (n0 + 3) (n0 + 2) (n0 + 5) K' q' ⟨nx1, [], G1⟩ := hP'.same (show St.get ⟨nx1, [], G1⟩ = _ from hG1)
        clear hG1 hnx1 hP'
        ((repeat refine WpM.seq ?_); have z_ex := (And.intro @wrap_id True.intro); refine WpM.regPE [] [(2, _), (6, _), (8, _), (33, _), (34, _), (35, _)] (by (refine s_o [(35, _)] rfl rfl rfl z_su rfl q_full z_fp z_ss ?_; refine s_o [(43, _)] rfl rfl rfl z_su rfl q_move z_fp z_ss ?_; exact wpS_nil ⟨rfl, rfl⟩)) z_su ?_; clear z_ex)
        refine round_end (x' := j + 1) (St.Le.refl _) (frLe_frOf (by (simp (maxSteps := 2000000) (disch := omega) [go_sem, -List.map_map, wrap_id]))) ⟨by omega, K', q', _, _, rfl, hP1.same rfl, hT.1, fun x hx => hT.2.1 x (hhas x hx), ?_, rfl⟩ (by omega)
        intro x hx d' hd'
        rw [htk, List.mem_append, List.mem_singleton] at hx
        rcases hx with hx | rfl
        · exact (hlk x hx d' hd').mono hT.2.1
        · rw [hd] at hd'
          injection hd' with hd'
          subst hd'
          exact hT.2.2 _ (fun l hl => by simp [memB] at hl)
    · ((repeat refine WpM.seq ?_); refine WpM.condF (by (simp (maxSteps := 2000000) (disch := omega) [go_sem, -List.map_map, hlt])) ?_)
      (refine WpM.exit ?_; (repeat (with_reducible (first | refine thenM_exit ?_ | refine blockM_eq ?_ | refine blockM_ne (by decide) ?_))))
      obtain rfl : j = (singles cs).length := by omega
      rw [List.take_length] at hlk
      have hall : ∀ d ∈ cs, Looked (memB []) K d := by
        intro d hd
        cases hs : isSingle d with
        | true =>
          obtain ⟨n, hn, rfl⟩ := List.getElem_of_mem hd
          exact hlk n (mem_singles.2 ⟨cs[n], by simp [hn], hs⟩) _ (by simp [hn])
        | false => exact not_single hs (fun l hl => (hcs d hd l hl).1) K
      clear hlk
      ((repeat refine WpM.seq ?_); refine WpM.block ?_)
      refine WpM.loop (fun (P : List Int) fr S => ∃ K q nx G, S = ⟨nx, [], G⟩ ∧ PlS H0 (n0 + 3) (n0 + 2) (n0 + 5) K q ⟨nx, [], G⟩ ∧ Kn cs (c.map (- ·)) K P q ∧ (∀ x ∈ c.map (- ·), K x = true) ∧ (∀ d ∈ cs, Looked (memB P) K d) ∧
          fr = frOf [(2, .ptr n0 0), (6, .ptr (n0 + 5) 0), (8, .fn 65 [.ptr n0 0, .ptr (n0 + 3) 0, .ptr (n0 + 7) 0])]) (fun P => 9000 - P.length) [] (St.Le.refl _) (frLe_frOf (by (simp (maxSteps := 2000000) (disch := omega) [go_sem, -List.map_map]))) ⟨K, q, _, _, rfl, hP.same rfl, hK, hhas, hall, rfl⟩ ?_
      clear hP hK hhas hall hql hlt hj
      clear K q G nx
      rintro P fr S' ⟨K, q, nx, G, rfl, hP, hK, hhas, hall, rfl⟩
      have hql := hK.len
      obtain ⟨nq, o, xs, u0, u1, u2, u3, u4⟩ := hP.que
      have u1' : G (n0 + 5) = _ := u1
      have u2' : G nq = _ := u2
      ((repeat refine WpM.seq ?_); have z_ex := (And.intro @u1' True.intro); refine WpM.regPE [] [(2, _), (6, _), (8, _), (46, _)] (by (refine s_o [(6, _)] rfl rfl rfl z_su rfl q_load z_fp z_ss ?_; refine s_o [(44, _)] rfl rfl rfl z_su rfl q_full z_fp z_ss ?_; refine s_o [(45, _)] rfl rfl rfl z_su rfl q_full z_fp z_ss ?_; exact wpS_nil ⟨rfl, rfl⟩)) z_su ?_; clear z_ex)
      cases q with
      | nil =>
        ((repeat refine WpM.seq ?_); refine WpM.condF (by (simp (maxSteps := 2000000) (disch := omega) [go_sem, -List.map_map])) ?_)
        (refine WpM.exit ?_; (repeat (with_reducible (first | refine thenM_exit ?_ | refine blockM_eq ?_ | refine blockM_ne (by decide) ?_))))
        ((repeat refine WpM.seq ?_); have z_ex := True.intro; refine WpM.regPE [] [(4, _)] (by (refine s_o [] rfl rfl rfl z_su rfl q_move z_fp z_ss ?_; exact wpS_nil ⟨rfl, rfl⟩)) z_su ?_; clear z_ex)
        have hf : followsB cs c = false := followsB_false.2 ⟨K, hK.closed hhas hall⟩
        refine WpM.ret ?_
        exact ⟨.inr rfl, Upd.done ⟨.d (.bool false), (by (simp (maxSteps := 2000000) (disch := omega) [go_sem, -List.map_map, resV, resVs, resV1])), by rw [hf], fun m k hm hk => hP.keep m k (eH m k hk)⟩⟩
      | cons a q =>
        simp only [List.length_cons] at hql u1' u3
        have hx0 : xs[o]? = some (.d (.int .i64 a)) := by
          have : (xs.drop o)[0]? = some (lit a) := by rw [u4]; rfl
          rw [List.getElem?_drop] at this
          exact this
        ((repeat refine WpM.seq ?_); refine WpM.condT (by (simp (maxSteps := 2000000) (disch := omega) [go_sem, -List.map_map])) ?_)
        refine WpM.skip ?_
        ((repeat refine WpM.seq ?_); refine WpM.block ?_)
        have m1 : G n0 = _ := hP.keep _ _ e1
        have m2 : G ck = _ := hP.keep _ _ kck
        have m4 : G na = _ := hP.keep _ _ kna
        obtain ⟨v, hv⟩ : ∃ v, v = if ocs cs a = [] then V.nil else V.ms (nr a) 1 0 (ocs cs a).length := ⟨_, rfl⟩
        have m5 : (am (.int .i64 a)).getD V.nil = v := by
          by_cases ho : ocs cs a = []
          · rw [hv, if_pos ho, hE.at_.none _ ho]; rfl
          · rw [hv, if_neg ho, (hE.at_.some _ ho).1]; rfl
        have m6 : evalLen Try.prog 35 v = some (.d (.int .i64 (ocs cs a).length)) := by
          by_cases ho : ocs cs a = []
          · rw [hv, if_pos ho, ho]; (simp (maxSteps := 2000000) (disch := omega) [go_sem, -List.map_map])
          · rw [hv, if_neg ho]; (simp (maxSteps := 2000000) (disch := omega) [go_sem, -List.map_map])
        simp only [evalLen, un35] at m6
        ((repeat refine WpM.seq ?_); have z_ex := (And.intro @m1 (And.intro @m2 (And.intro @m4 (And.intro @m5 (And.intro @m6 (And.intro @u1' (And.intro @u2' (And.intro @hx0 True.intro)))))))); refine WpM.drwPE [] [(2, _), (6, _), (8, _), (56, _), (57, _), (58, _)] mixed (by kernel_rfl) (by kernel_rfl) [] (by kernel_rfl) (by (refine d_o [(2, _)] rfl rfl rfl z_su rfl q_load z_fp z_ss rfl ?_; refine d_o [(49, _)] rfl rfl rfl z_su rfl q_move z_fp z_ss rfl ?_; refine d_o [(50, _)] rfl rfl rfl z_su rfl q_fieldAddr z_fp z_ss rfl ?_; refine d_o [(51, _)] rfl rfl rfl z_su rfl q_load z_fp z_ss rfl ?_; refine d_o [(6, _)] rfl rfl rfl z_su rfl q_load z_fp z_ss rfl ?_; refine d_o [(53, _)] rfl rfl rfl z_su rfl q_full z_fp z_ss rfl ?_; refine d_o [(54, _)] rfl rfl rfl z_su rfl q_load z_fp z_ss rfl ?_; refine d_o [(52, _), (55, _)] rfl rfl rfl z_su rfl q_lookup z_fp z_ss rfl ?_; refine d_o [(56, _)] rfl rfl rfl z_su rfl q_full z_fp z_ss rfl ?_; refine d_o [] rfl rfl rfl z_su rfl q_move z_fp z_ss rfl ?_; exact d_end z_mt z_sn)) z_su ?_; clear z_ex)
        clear m1 m2 m4 m5 m6 u1 u1' u2 u2' u3 u4 u0 hx0
        clear xs nq o
        ((repeat refine WpM.seq ?_); refine WpM.block ?_)
        refine WpM.loop (fun (j : Nat) fr S => j ≤ (ocs cs a).length ∧ ∃ K q nx G, S = ⟨nx, [], G⟩ ∧ PlS H0 (n0 + 3) (n0 + 2) (n0 + 5) K (a :: q) ⟨nx, [], G⟩ ∧ Kn cs (c.map (- ·)) K P (a :: q) ∧ (∀ x ∈ c.map (- ·), K x = true) ∧ (∀ d ∈ cs, Looked (memB P) K d) ∧ (∀ n ∈ (ocs cs a).take j, ∀ d, cs[n]? = some d → Looked (memB (P ++ [a])) K d) ∧
            fr = frOf [(2, .ptr n0 0), (6, .ptr (n0 + 5) 0), (8, .fn 65 [.ptr n0 0, .ptr (n0 + 3) 0, .ptr (n0 + 7) 0]), (56, v), (57, .d (.int .i64 (ocs cs a).length)), (58, .d (.int .i64 j))]) (fun j => (ocs cs a).length - j) 0 (St.Le.refl _) (frLe_frOf (by (simp (maxSteps := 2000000) (disch := omega) [go_sem, -List.map_map]))) ⟨by omega, K, q, _, _, rfl, hP.same rfl, hK, hhas, hall, by simp, rfl⟩ ?_
        clear hP hK hhas hall hql
        clear K q G nx
        rintro j fr S' ⟨hj, K, q, nx, G, rfl, hP, hK, hhas, hall, hlk, rfl⟩
        have hql := hK.len
        simp only [List.length_cons] at hql
        have hol := len_ocs (l := a) cs
        ((repeat refine WpM.seq ?_); have z_ex := True.intro; refine WpM.regPE [] [(2, _), (6, _), (8, _), (56, _), (57, _), (58, _), (59, _)] (by (refine s_o [(57, _), (58, _)] rfl rfl rfl z_su rfl q_full z_fp z_ss ?_; exact wpS_nil ⟨rfl, rfl⟩)) z_su ?_; clear z_ex)
        by_cases hlt : j < (ocs cs a).length
        · ((repeat refine WpM.seq ?_); refine WpM.condT (by (simp (maxSteps := 2000000) (disch := omega) [go_sem, -List.map_map, hlt])) ?_)
          refine WpM.skip ?_
          ((repeat refine WpM.seq ?_); refine WpM.block ?_)
          have ho : ocs cs a ≠ [] := by intro e; rw [e] at hlt; simp at hlt
          rw [if_neg ho] at hv
          subst hv
          have hsm : (ocs cs a)[j] ∈ ocs cs a := List.getElem_mem _
          have htk : (ocs cs a).take (j + 1) = (ocs cs a).take j ++ [(ocs cs a)[j]] := List.take_succ_eq_append_getElem hlt
          obtain ⟨n, hne'⟩ : ∃ n, n = (ocs cs a)[j] := ⟨_, rfl⟩
          have hgs : ((ocs cs a).map nlit)[j]? = some (V.d (.int .i64 n)) := by rw [List.getElem?_map, List.getElem?_eq_getElem hlt, ← hne']; rfl
          rw [← hne'] at hsm htk
          clear hne'
          obtain ⟨d, hd, hds⟩ := (mem_ocs cs).1 hsm
          obtain ⟨hnl, hde⟩ := List.getElem?_eq_some_iff.1 hd
          have hdm : d ∈ cs := List.mem_of_getElem? hd
          have m3 : G (nr a) = _ := hP.keep _ _ (eH _ _ (hE.at_.some a ho).2.1)
          ((repeat refine WpM.seq ?_); have z_ex := (And.intro @m3 (And.intro @hgs True.intro)); refine WpM.regPE [] [(2, _), (6, _), (8, _), (14, _), (56, _), (57, _), (58, _)] (by (refine s_o [(56, _), (58, _)] rfl rfl rfl z_su rfl q_full z_fp z_ss ?_; refine s_o [(60, _)] rfl rfl rfl z_su rfl q_load z_fp z_ss ?_; refine s_o [(61, _)] rfl rfl rfl z_su rfl q_move z_fp z_ss ?_; exact wpS_nil ⟨rfl, rfl⟩)) z_su ?_; clear z_ex)
          have hC := look65 (hP.same (S' := ⟨nx + 6, [], G⟩) rfl) n cs.length d _ (hget n d hd) (by simp) hnl (hcs d hdm) (by have := hml d hdm; omega) n0 (n0 + 7) ck nc _ _ e1 kck knc e3 (by simp only [List.length_cons]; omega)
          have hT := hK.look hdm (hcs d hdm)
          cases ht : lookStep K (a :: q) d with
          | none =>
            simp only [ht] at hC hT
            ((repeat refine WpM.seq ?_); have z_ex := True.intro; refine WpM.regP [] ?_; intro K hK; refine s_o [(8, _)] rfl rfl rfl z_su rfl q_move z_fp z_ss ?_; refine s_o [(14, _)] rfl rfl rfl z_su rfl q_move z_fp z_ss ?_; refine s_call (callOf_eq rfl rfl z_lk (mlk_tmp z_lk mlk_nil)) hC rfl rfl z_ip ?_; rintro _ z_S ⟨rfl, hP'⟩; refine s_put z_fp ?_; refine s_o [(64, _)] rfl rfl rfl z_su rfl q_unOp z_fp z_ss ?_; refine s_endE [(2, _), (6, _), (8, _), (56, _), (57, _), (58, _), (65, _)] hK z_su ?_; clear hK K; clear z_ex)
            ((repeat refine WpM.seq ?_); refine WpM.condT (by (simp (maxSteps := 2000000) (disch := omega) [go_sem, -List.map_map])) ?_)
            ((repeat refine WpM.seq ?_); have z_ex := True.intro; refine WpM.regPE [] [(4, _)] (by (refine s_o [] rfl rfl rfl z_su rfl q_move z_fp z_ss ?_; exact wpS_nil ⟨rfl, rfl⟩)) z_su ?_; clear z_ex)
            refine WpM.ret ?_
            exact ⟨.inr rfl, Upd.done ⟨.d (.bool true), (by (simp (maxSteps := 2000000) (disch := omega) [go_sem, -List.map_map, resV, resVs, resV1])), by rw [followsB_true.2 hT], fun m k hm hk => hP' m k (eH m k hk)⟩⟩
          | some p =>
            obtain ⟨K', q'⟩ := p
            obtain ⟨q2, rfl⟩ := lookStep_head ht
            simp only [ht] at hC hT
            ((repeat refine WpM.seq ?_); have z_ex := True.intro; refine WpM.regP [] ?_; intro K hK; refine s_o [(8, _)] rfl rfl rfl z_su rfl q_move z_fp z_ss ?_; refine s_o [(14, _)] rfl rfl rfl z_su rfl q_move z_fp z_ss ?_; refine s_call (callOf_eq rfl rfl z_lk (mlk_tmp z_lk mlk_nil)) hC rfl rfl z_ip ?_; rintro _ z_S ⟨rfl, hP'⟩; refine s_put z_fp ?_; refine s_o [(64, _)] rfl rfl rfl z_su rfl q_unOp z_fp z_ss ?_; refine s_endE [(2, _), (6, _), (8, _), (56, _), (57, _), (58, _), (65, _)] hK z_su ?_; clear hK K; clear z_ex)
            ((repeat refine WpM.seq ?_); refine WpM.condF (by (simp (maxSteps := 2000000) (disch := omega) [go_sem, -List.map_map])) ?_)
            refine WpM.skip ?_
            refine WpM.norm ?_
            intro nx1 G1 hnx1 hG1 hk1
            have hP1 : PlS H0 (n0 + 3) (n0 + 2) (n0 + 5) K' (a :: q2) ⟨nx1, [], G1⟩ := hP'.same (show St.get ⟨nx1, [], G1⟩ = _ from hG1)
            clear hG1 hnx1 hP'
            ((repeat refine WpM.seq ?_); have z_ex := (And.intro @wrap_id True.intro); refine WpM.regPE [] [(2, _), (6, _), (8, _), (56, _), (57, _), (58, _)] (by (refine s_o [(58, _)] rfl rfl rfl z_su rfl q_full z_fp z_ss ?_; refine s_o [(66, _)] rfl rfl rfl z_su rfl q_move z_fp z_ss ?_; exact wpS_nil ⟨rfl, rfl⟩)) z_su ?_; clear z_ex)
            refine round_end (x' := j + 1) (St.Le.refl _) (frLe_frOf (by (simp (maxSteps := 2000000) (disch := omega) [go_sem, -List.map_map, wrap_id]))) ⟨by omega, K', q2, _, _, rfl, hP1.same rfl, hT.1, fun x hx => hT.2.1 x (hhas x hx), fun d' hd' => (hall d' hd').mono hT.2.1, ?_, rfl⟩ (by omega)
            intro x hx d' hd'
            rw [htk, List.mem_append, List.mem_singleton] at hx
            rcases hx with hx | rfl
            · exact (hlk x hx d' hd').mono hT.2.1
            · rw [hd] at hd'
              injection hd' with hd'
              subst hd'
              exact hT.2.2 _ hK.subP
        · ((repeat refine WpM.seq ?_); refine WpM.condF (by (simp (maxSteps := 2000000) (disch := omega) [go_sem, -List.map_map, hlt])) ?_)
          (refine WpM.exit ?_; (repeat (with_reducible (first | refine thenM_exit ?_ | refine blockM_eq ?_ | refine blockM_ne (by decide) ?_))))
          obtain rfl : j = (ocs cs a).length := by omega
          rw [List.take_length] at hlk
          have hall2 : ∀ d ∈ cs, Looked (memB (P ++ [a])) K d := by
            intro d hd
            by_cases hm : -a ∈ d
            · obtain ⟨n, hn, rfl⟩ := List.getElem_of_mem hd
              exact hlk n ((mem_ocs cs).2 ⟨cs[n], by simp [hn], hm⟩) _ (by simp [hn])
            · exact (hall d hd).next hm
          obtain ⟨nq, o, xs, u0, u1, u2, u3, u4⟩ := hP.que
          have u1' : G (n0 + 5) = _ := u1
          simp only [List.length_cons] at u1' u3
          refine WpM.known fun hG => ?_
          have ub := hG _ _ u1
          ((repeat refine WpM.seq ?_); have z_ex := (And.intro @u1' True.intro); refine WpM.regPE [] [(2, _), (6, _), (8, _)] (by (refine s_o [(6, _)] rfl rfl rfl z_su rfl q_load z_fp z_ss ?_; refine s_o [(47, _)] rfl rfl rfl z_su rfl q_full z_fp z_ss ?_; refine s_o [(6, _), (48, _)] rfl rfl rfl z_su rfl q_store z_fp z_ss ?_; exact wpS_nil ⟨rfl, rfl⟩)) z_su ?_; clear z_ex)
          refine round_end (x' := P ++ [a]) (St.Le.norm _) (frLe_frOf (by (simp (maxSteps := 2000000) (disch := omega) [go_sem, -List.map_map]))) ⟨K, q, _, _, rfl, ?_, hK.shift, hhas, hall2, rfl⟩ (by simp only [List.length_append, List.length_singleton]; omega)
          have hne5 : nq ≠ n0 + 5 := by intro e; rw [e, u1] at u2; cases u2
          refine ⟨?_, hP.hbm, hP.hnm, hP.hbq, ?_, nq, o + 1, xs, u0, ?_, ?_, by omega, ?_⟩
          · intro m k hm
            have hm5 : m ≠ n0 + 5 := by rintro rfl; rw [hP.hbq] at hm; cases hm
            have h9 : G m = _ := hP.keep m k hm
            (simp (maxSteps := 2000000) (disch := omega) [go_sem, -List.map_map, hm5, h9])
          · have h9 : G (n0 + 2) = _ := hP.map
            (simp (maxSteps := 2000000) (disch := omega) [go_sem, -List.map_map, h9])
          · (simp (maxSteps := 2000000) (disch := omega) [go_sem, -List.map_map])
          · have h9 : G nq = _ := u2
            (simp (maxSteps := 2000000) (disch := omega) [go_sem, -List.map_map, hne5, h9])
          · rw [← List.drop_drop, u4]
            rfl
end Go.Proofs.Ytafeehlpmdligaa
