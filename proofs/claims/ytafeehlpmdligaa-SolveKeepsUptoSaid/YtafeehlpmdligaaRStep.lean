/- proof.(*checker).plain$1 and plain$2 as steps: what is known, and the queue. -/
import Derived.Test.YtafeehlpmdligaaROp
import Derived.Test.YtafeehlpmdligaaRUnit
namespace Go.Proofs.Ytafeehlpmdligaa
open Go.RowKit M
set_option linter.unusedSimpArgs false
set_option linter.unusedVariables false
theorem ti65x : tinf Try.prog 65 = some ⟨1, 8, false, .nilFunc⟩ := by kernel_rfl
/-- A literal is taken; none: its negative is known. -/
def takeStep (K : Int → Bool) (q : List Int) (l : Int) : Option ((Int → Bool) × List Int) :=
  if K (-l) = true then none else if K l = true then some (K, q) else some (setP K l, q ++ [l])
/-- A clause is looked at; none: nothing is left of it. -/
def lookStep (K : Int → Bool) (q : List Int) (c : List Int) : Option ((Int → Bool) × List Int) :=
  match scan K 0 c with
  | none => some (K, q)
  | some u => if u = 0 then none else takeStep K q u
def lit (l : Int) : V := .d (.int .i64 l)
/-- The state while a clause is tried: H0: what stays. -/
structure PlS (H0 : Nat → Option Blk) (bm nm bq : Nat) (K : Int → Bool) (q : List Int) (S : St) : Prop where
  keep : ∀ m k, H0 m = some k → S.get m = some k
  hbm : H0 bm = some (.box [.map nm])
  hnm : H0 nm = none
  hbq : H0 bq = none
  map : S.get nm = some (.map (.int .i64) (setM K))
  que : ∃ nq o xs, H0 nq = none ∧ S.get bq = some (.box [.ms nq 1 o q.length]) ∧ S.get nq = some (.row 1 xs) ∧ o + q.length = xs.length ∧ xs.drop o = q.map lit
theorem PlS.same {H0 : Nat → Option Blk} {bm nm bq : Nat} {K : Int → Bool} {q : List Int} {S S' : St} (h : PlS H0 bm nm bq K q S) (e : S'.get = S.get) : PlS H0 bm nm bq K q S' := by
  obtain ⟨a, b, c, d, m, qq⟩ := h
  exact ⟨by rw [e]; exact a, b, c, d, by rw [e]; exact m, by rw [e]; exact qq⟩
theorem take64 {H0 : Nat → Option Blk} {bm nm bq : Nat} {K : Int → Bool} {q : List Int} {S : St} (h : PlS H0 bm nm bq K q S) (l : Int) (hl1 : -4096 ≤ l) (hl2 : l ≤ 4096) (hn : q.length ≤ 100000) :
    CallM Try.prog 64 [.d (.int .i64 l), .ptr bm 0, .ptr bq 0] S fun r S' => match takeStep K q l with
      | none => r = .d (.bool false) ∧ PlS H0 bm nm bq K q S'
      | some (K', q') => r = .d (.bool true) ∧ PlS H0 bm nm bq K' q' S' := by
  have hm := h.keep _ _ h.hbm
  obtain ⟨nq, o, xs, e1, e2, e3, e4, e5⟩ := h.que
  unfold takeStep
  cases h1 : K (-l) with
  | true =>
    rw [if_pos rfl]
    refine (put64_no l hl1 hl2 K h1 bm nm bq S hm h.map).mono ?_
    rintro r S' ⟨rfl, rfl⟩
    exact ⟨rfl, h⟩
  | false =>
    rw [if_neg (by simp)]
    cases h2 : K l with
    | true =>
      rw [if_pos rfl]
      refine (put64_old l hl1 hl2 K h1 h2 bm nm bq S hm h.map).mono ?_
      rintro r S' ⟨rfl, rfl⟩
      exact ⟨rfl, h⟩
    | false =>
      rw [if_neg (by simp)]
      refine CallM.known fun hk => ?_
      have n1 : bm ≠ bq := by intro e; have := h.hbm; rw [e, h.hbq] at this; cases this
      have n2 : nm ≠ bq := by intro e; have := h.map; rw [e, e2] at this; cases this
      have n3 : nm ≠ nq := by intro e; have := h.map; rw [e, e3] at this; cases this
      have n4 : bq ≠ nq := by intro e; rw [e, e3] at e2; cases e2
      have n5 : bm ≠ nq := by intro e; have := h.hbm; rw [e, e1] at this; cases this
      have n6 : bm ≠ nm := by intro e; have := h.hbm; rw [e, h.hnm] at this; cases this
      refine (put64_new l hl1 hl2 K h1 h2 bm nm bq nq o q.length xs S hm h.map e2 e3 e4 hn n1 n2 n3 n4 n5 n6).mono ?_
      rintro r S' ⟨rfl, hnx, nq', g1, g2, g3, g4, g5, g6⟩
      have hlt : ∀ m k, H0 m = some k → m < S.next := fun m k hm' => hk m k (h.keep m k hm')
      refine ⟨rfl, ?_, h.hbm, h.hnm, h.hbq, g3, nq', 0, _, ?_, by simpa using g4, g5, ?_, ?_⟩
      · intro m k hm'
        refine g6 m k (hlt m k hm') ?_ ?_ ?_ (h.keep m k hm')
        · rintro rfl; rw [h.hnm] at hm'; cases hm'
        · rintro rfl; rw [h.hbq] at hm'; cases hm'
        · rintro rfl; rw [e1] at hm'; cases hm'
      · cases hq : H0 nq' with
        | none => rfl
        | some k => have := hlt _ _ hq; omega
      · simp; omega
      · rw [List.drop_zero, List.take_of_length_le (by simp; omega), e5]
        simp [lit]
set_option maxHeartbeats 8000000 in
theorem look65_one (i m : Nat) (c : List Int) (xs : List V) (hx : xs[i]? = some (.d (ints c))) (hm : xs.length = m) (him : i < m) (hlit : ∀ l ∈ c, -4096 ≤ l ∧ l ≤ 4096) (hlen : c.length ≤ 140737488351232) (s : Int → Bool) (u : Int) (hu : u ≠ 0) (hul : -4096 ≤ u ∧ u ≤ 4096) (hs : scan s 0 c = some u) (b1 b2 b3 ck nc nm : Nat) (v1 v2 : V) (S : St) {R : V → St → Prop}
    (k1 : S.get b1 = some (.box [.ptr ck 0])) (k2 : S.get ck = some (.box [.ms nc 1 0 m, v1, v2])) (k3 : S.get nc = some (.row 1 xs)) (k4 : S.get b2 = some (.box [.map nm])) (k5 : S.get nm = some (.map (.int .i64) (setM s))) (bq : Nat) (k6 : S.get b3 = some (.box [.fn 64 [.ptr b2 0, .ptr bq 0]]))
    (hC : ∀ S', S'.get = S.get → CallM Try.prog 64 [.d (.int .i64 u), .ptr b2 0, .ptr bq 0] S' fun r S'' => ∃ b, r = .d (.bool b) ∧ ∀ S3, S3.get = S''.get → R r S3) :
    CallM Try.prog 65 [.d (.int .i64 i), .ptr b1 0, .ptr b2 0, .ptr b3 0] S R := by
  refine CallM.start (n := 47) Try.func65 rfl rfl (by simp) (by simp only [argL, Nat.reduceAdd] <;> rfl) ?_
  intro hH
  obtain ⟨H, hHe⟩ : ∃ H, H = S.get := ⟨_, rfl⟩
  obtain ⟨n0, hne⟩ : ∃ n0, n0 = S.next := ⟨_, rfl⟩
  rw [← hHe, ← hne] at hH ⊢
  rw [← hHe] at k1 k2 k3 k4 k5 k6 hC
  have g4 : b2 < n0 := hH _ _ k4
  have g5 : nm < n0 := hH _ _ k5
  have g6 : b3 < n0 := hH _ _ k6
  ((repeat refine WpM.seq ?_); have z_ex := True.intro; refine WpM.regPE [] [(0, _), (1, _), (2, _), (3, _)] (by (refine s_o [] rfl rfl rfl z_su rfl q_move z_fp z_ss ?_; exact wpS_nil ⟨rfl, rfl⟩)) z_su ?_; clear z_ex)
  ((repeat refine WpM.seq ?_); have z_ex := True.intro; refine WpM.regPE [] [(0, _), (1, _), (2, _), (3, _), (6, _)] (by (refine s_o [] rfl rfl rfl z_su rfl q_move z_fp z_ss ?_; exact wpS_nil ⟨rfl, rfl⟩)) z_su ?_; clear z_ex)
  have hx' : xs[i]? = some (.d (.sl (c.map (D.int .i64)))) := hx
  ((repeat refine WpM.seq ?_); have z_ex := (And.intro @k1 (And.intro @k2 (And.intro @k3 (And.intro @hx' (And.intro @him True.intro))))); refine WpM.regPE [] [(2, _), (3, _), (6, _), (17, _), (18, _), (19, _)] (by (refine s_o [(1, _)] rfl rfl rfl z_su rfl q_load z_fp z_ss ?_; refine s_o [(11, _)] rfl rfl rfl z_su rfl q_move z_fp z_ss ?_; refine s_o [(12, _)] rfl rfl rfl z_su rfl q_fieldAddr z_fp z_ss ?_; refine s_o [(13, _)] rfl rfl rfl z_su rfl q_load z_fp z_ss ?_; refine s_o [(0, _)] rfl rfl rfl z_su rfl q_move z_fp z_ss ?_; refine s_o [(14, _), (15, _)] rfl rfl rfl z_su rfl q_full z_fp z_ss ?_; refine s_o [(16, _)] rfl rfl rfl z_su rfl q_load z_fp z_ss ?_; refine s_o [(17, _)] rfl rfl rfl z_su rfl q_full z_fp z_ss ?_; refine s_o [] rfl rfl rfl z_su rfl q_move z_fp z_ss ?_; exact wpS_nil ⟨rfl, rfl⟩)) z_su ?_; clear z_ex)
  ((repeat refine WpM.seq ?_); refine WpM.block ?_)
  refine WpM.loop (fun (j : Nat) fr S => j ≤ c.length ∧ ∃ left, scan s left (c.drop j) = some u ∧ fr = frOf [(2, .ptr b2 0), (3, .ptr b3 0), (6, .d (.int .i64 left)), (17, .d (ints c)), (18, .d (.int .i64 c.length)), (19, .d (.int .i64 j))] ∧ ∃ nx, n0 ≤ nx ∧ S = ⟨nx, [], H⟩) (fun j => c.length - j) 0 (St.Le.refl _) (frLe_frOf (by (simp (maxSteps := 2000000) (disch := omega) [go_sem, -List.map_map, ints]))) ⟨by omega, 0, by simpa using hs, rfl, _, ?_, rfl⟩ ?_
  · omega
  rintro j fr S' ⟨hj, left, hsc, rfl, nx, hnx, rfl⟩
  ((repeat refine WpM.seq ?_); have z_ex := True.intro; refine WpM.regPE [] [(2, _), (3, _), (6, _), (17, _), (18, _), (19, _), (20, _)] (by (refine s_o [(18, _), (19, _)] rfl rfl rfl z_su rfl q_full z_fp z_ss ?_; exact wpS_nil ⟨rfl, rfl⟩)) z_su ?_; clear z_ex)
  by_cases hlt : j < c.length
  · ((repeat refine WpM.seq ?_); refine WpM.condT (by (simp (maxSteps := 2000000) (disch := omega) [go_sem, -List.map_map, hlt])) ?_)
    refine WpM.skip ?_
    ((repeat refine WpM.seq ?_); refine WpM.block ?_)
    have hl := hlit c[j] (List.getElem_mem _)
    rw [List.drop_eq_getElem_cons hlt, scan] at hsc
    obtain ⟨l, hle⟩ : ∃ l, l = c[j] := ⟨_, rfl⟩
    have hget : (c.map (D.int .i64))[j]? = some (.int .i64 l) := by simp [hlt, hle]
    rw [← hle] at hl hsc
    obtain ⟨hl1, hl2⟩ := hl
    ((repeat refine WpM.seq ?_); have z_ex := (And.intro @hget (And.intro @ints.eq_1 True.intro)); refine WpM.regPE [] [(2, _), (3, _), (6, _), (8, _), (17, _), (18, _), (19, _)] (by (refine s_o [(17, _), (19, _)] rfl rfl rfl z_su rfl q_full z_fp z_ss ?_; refine s_o [(21, _)] rfl rfl rfl z_su rfl q_load z_fp z_ss ?_; refine s_o [(22, _)] rfl rfl rfl z_su rfl q_move z_fp z_ss ?_; exact wpS_nil ⟨rfl, rfl⟩)) z_su ?_; clear z_ex)
    cases h1 : s (-l) with
    | true =>
      rw [if_pos (.inl h1)] at hsc
      ((repeat refine WpM.seq ?_); have z_ex := (And.intro @k4 (And.intro @k5 (And.intro @setM.eq_1 (And.intro @h1 (And.intro @wrap_neg (And.intro @wrap_0sub True.intro)))))); refine WpM.regPE [] [(2, _), (3, _), (6, _), (8, _), (10, _), (17, _), (18, _), (19, _)] (by (refine s_o [(2, _)] rfl rfl rfl z_su rfl q_load z_fp z_ss ?_; refine s_o [(8, _)] rfl rfl rfl z_su rfl q_move z_fp z_ss ?_; refine s_o [(25, _)] rfl rfl rfl z_su rfl q_unOp z_fp z_ss ?_; refine s_o [(24, _), (26, _)] rfl rfl rfl z_su rfl q_lookup z_fp z_ss ?_; refine s_o [(27, _)] rfl rfl rfl z_su rfl q_move z_fp z_ss ?_; refine s_o [(23, _)] rfl rfl rfl z_su rfl q_extract z_fp z_ss ?_; refine s_o [(23, _)] rfl rfl rfl z_su rfl q_extract z_fp z_ss ?_; refine s_o [] rfl rfl rfl z_su rfl q_alloc z_fp z_ss ?_; refine s_o [(9, _), (28, _)] rfl rfl rfl z_su rfl q_store z_fp z_ss ?_; refine s_o [(29, _)] rfl rfl rfl z_su rfl q_move z_fp z_ss ?_; exact wpS_nil ⟨rfl, rfl⟩)) z_su ?_; clear z_ex)
      ((repeat refine WpM.seq ?_); have z_ex := True.intro; refine WpM.regPE [] [(2, _), (3, _), (6, _), (8, _), (17, _), (18, _), (19, _), (35, _)] (by (refine s_o [(10, _)] rfl rfl rfl z_su rfl q_move z_fp z_ss ?_; refine s_o [(30, _)] rfl rfl rfl z_su rfl q_move z_fp z_ss ?_; refine s_wit ?_; intro z_g; (first | refine s_skip rfl z_g z_fp ?_ | (refine s_o [(8, _)] rfl z_g rfl z_su rfl q_move z_fp z_ss ?_)); clear z_g; refine s_wit ?_; intro z_g; (first | refine s_skip rfl z_g z_fp ?_ | (refine s_o [(6, _)] rfl z_g rfl z_su rfl q_move z_fp z_ss ?_)); clear z_g; refine s_wit ?_; intro z_g; (first | refine s_skip rfl z_g z_fp ?_ | (refine s_o [(32, _), (33, _)] rfl z_g rfl z_su rfl q_full z_fp z_ss ?_)); clear z_g; refine s_o [(31, _), (34, _)] rfl rfl rfl z_su rfl q_move z_fp z_ss ?_; exact wpS_nil ⟨rfl, rfl⟩)) z_su ?_; clear z_ex)
      ((repeat refine WpM.seq ?_); refine WpM.condT (by (simp (maxSteps := 2000000) (disch := omega) [go_sem, -List.map_map])) ?_)
      (refine WpM.exit ?_; (repeat (with_reducible (first | refine thenM_exit ?_ | refine blockM_eq ?_ | refine blockM_ne (by decide) ?_))))
      ((repeat refine WpM.seq ?_); have z_ex := (And.intro @wrap_id True.intro); refine WpM.regPE [] [(2, _), (3, _), (6, _), (17, _), (18, _), (19, _)] (by (refine s_o [(19, _)] rfl rfl rfl z_su rfl q_full z_fp z_ss ?_; refine s_o [(39, _)] rfl rfl rfl z_su rfl q_move z_fp z_ss ?_; exact wpS_nil ⟨rfl, rfl⟩)) z_su ?_; clear z_ex)
      refine round_end (x' := j + 1) (le_cut (l' := []) hH (by (simp (maxSteps := 2000000) (disch := omega) [go_sem, -List.map_map]); omega) (Nat.le_refl _) (by simp)) (frLe_frOf (by (simp (maxSteps := 2000000) (disch := omega) [go_sem, -List.map_map, wrap_id]))) ⟨by omega, left, hsc, rfl, _, ?_, rfl⟩ (by omega)
      omega
    | false =>
      ((repeat refine WpM.seq ?_); have z_ex := (And.intro @k4 (And.intro @k5 (And.intro @setM.eq_1 (And.intro @h1 (And.intro @wrap_neg (And.intro @wrap_0sub True.intro)))))); refine WpM.regPE [] [(2, _), (3, _), (6, _), (8, _), (10, _), (17, _), (18, _), (19, _)] (by (refine s_o [(2, _)] rfl rfl rfl z_su rfl q_load z_fp z_ss ?_; refine s_o [(8, _)] rfl rfl rfl z_su rfl q_move z_fp z_ss ?_; refine s_o [(25, _)] rfl rfl rfl z_su rfl q_unOp z_fp z_ss ?_; refine s_o [(24, _), (26, _)] rfl rfl rfl z_su rfl q_lookup z_fp z_ss ?_; refine s_o [(27, _)] rfl rfl rfl z_su rfl q_move z_fp z_ss ?_; refine s_o [(23, _)] rfl rfl rfl z_su rfl q_extract z_fp z_ss ?_; refine s_o [(23, _)] rfl rfl rfl z_su rfl q_extract z_fp z_ss ?_; refine s_o [] rfl rfl rfl z_su rfl q_alloc z_fp z_ss ?_; refine s_o [(9, _), (28, _)] rfl rfl rfl z_su rfl q_store z_fp z_ss ?_; refine s_o [(29, _)] rfl rfl rfl z_su rfl q_move z_fp z_ss ?_; exact wpS_nil ⟨rfl, rfl⟩)) z_su ?_; clear z_ex)
      by_cases h2 : l = left
      · rw [if_pos (.inr h2)] at hsc
        ((repeat refine WpM.seq ?_); have z_ex := (And.intro @h2 True.intro); refine WpM.regPE [] [(2, _), (3, _), (6, _), (8, _), (17, _), (18, _), (19, _), (35, _)] (by (refine s_o [(10, _)] rfl rfl rfl z_su rfl q_move z_fp z_ss ?_; refine s_o [(30, _)] rfl rfl rfl z_su rfl q_move z_fp z_ss ?_; refine s_wit ?_; intro z_g; (first | refine s_skip rfl z_g z_fp ?_ | (refine s_o [(8, _)] rfl z_g rfl z_su rfl q_move z_fp z_ss ?_)); clear z_g; refine s_wit ?_; intro z_g; (first | refine s_skip rfl z_g z_fp ?_ | (refine s_o [(6, _)] rfl z_g rfl z_su rfl q_move z_fp z_ss ?_)); clear z_g; refine s_wit ?_; intro z_g; (first | refine s_skip rfl z_g z_fp ?_ | (refine s_o [(32, _), (33, _)] rfl z_g rfl z_su rfl q_full z_fp z_ss ?_)); clear z_g; refine s_o [(31, _), (34, _)] rfl rfl rfl z_su rfl q_move z_fp z_ss ?_; exact wpS_nil ⟨rfl, rfl⟩)) z_su ?_; clear z_ex)
        ((repeat refine WpM.seq ?_); refine WpM.condT (by (simp (maxSteps := 2000000) (disch := omega) [go_sem, -List.map_map, h2])) ?_)
        (refine WpM.exit ?_; (repeat (with_reducible (first | refine thenM_exit ?_ | refine blockM_eq ?_ | refine blockM_ne (by decide) ?_))))
        ((repeat refine WpM.seq ?_); have z_ex := (And.intro @wrap_id True.intro); refine WpM.regPE [] [(2, _), (3, _), (6, _), (17, _), (18, _), (19, _)] (by (refine s_o [(19, _)] rfl rfl rfl z_su rfl q_full z_fp z_ss ?_; refine s_o [(39, _)] rfl rfl rfl z_su rfl q_move z_fp z_ss ?_; exact wpS_nil ⟨rfl, rfl⟩)) z_su ?_; clear z_ex)
        refine round_end (x' := j + 1) (le_cut (l' := []) hH (by (simp (maxSteps := 2000000) (disch := omega) [go_sem, -List.map_map]); omega) (Nat.le_refl _) (by simp)) (frLe_frOf (by (simp (maxSteps := 2000000) (disch := omega) [go_sem, -List.map_map, wrap_id]))) ⟨by omega, left, hsc, rfl, _, ?_, rfl⟩ (by omega)
        omega
      · rw [if_neg (by simp [h1, h2])] at hsc
        ((repeat refine WpM.seq ?_); have z_ex := (And.intro @h2 True.intro); refine WpM.regPE [] [(2, _), (3, _), (6, _), (8, _), (17, _), (18, _), (19, _), (35, _)] (by (refine s_o [(10, _)] rfl rfl rfl z_su rfl q_move z_fp z_ss ?_; refine s_o [(30, _)] rfl rfl rfl z_su rfl q_move z_fp z_ss ?_; refine s_wit ?_; intro z_g; (first | refine s_skip rfl z_g z_fp ?_ | (refine s_o [(8, _)] rfl z_g rfl z_su rfl q_move z_fp z_ss ?_)); clear z_g; refine s_wit ?_; intro z_g; (first | refine s_skip rfl z_g z_fp ?_ | (refine s_o [(6, _)] rfl z_g rfl z_su rfl q_move z_fp z_ss ?_)); clear z_g; refine s_wit ?_; intro z_g; (first | refine s_skip rfl z_g z_fp ?_ | (refine s_o [(32, _), (33, _)] rfl z_g rfl z_su rfl q_full z_fp z_ss ?_)); clear z_g; refine s_o [(31, _), (34, _)] rfl rfl rfl z_su rfl q_move z_fp z_ss ?_; exact wpS_nil ⟨rfl, rfl⟩)) z_su ?_; clear z_ex)
        ((repeat refine WpM.seq ?_); refine WpM.condF (by (simp (maxSteps := 2000000) (disch := omega) [go_sem, -List.map_map, h2])) ?_)
        refine WpM.skip ?_
        by_cases h3 : left = 0
        · rw [if_neg (by simp [h3])] at hsc
          ((repeat refine WpM.seq ?_); have z_ex := (And.intro @h3 True.intro); refine WpM.regPE [] [(2, _), (3, _), (8, _), (17, _), (18, _), (19, _), (37, _)] (by (refine s_o [(6, _)] rfl rfl rfl z_su rfl q_move z_fp z_ss ?_; refine s_o [(36, _)] rfl rfl rfl z_su rfl q_full z_fp z_ss ?_; exact wpS_nil ⟨rfl, rfl⟩)) z_su ?_; clear z_ex)
          ((repeat refine WpM.seq ?_); refine WpM.condF (by (simp (maxSteps := 2000000) (disch := omega) [go_sem, -List.map_map, h3])) ?_)
          refine WpM.skip ?_
          ((repeat refine WpM.seq ?_); have z_ex := True.intro; refine WpM.regPE [] [(2, _), (3, _), (6, _), (17, _), (18, _), (19, _)] (by (refine s_o [(8, _)] rfl rfl rfl z_su rfl q_move z_fp z_ss ?_; refine s_o [(38, _)] rfl rfl rfl z_su rfl q_move z_fp z_ss ?_; exact wpS_nil ⟨rfl, rfl⟩)) z_su ?_; clear z_ex)
          ((repeat refine WpM.seq ?_); have z_ex := (And.intro @wrap_id True.intro); refine WpM.regPE [] [(2, _), (3, _), (6, _), (17, _), (18, _), (19, _)] (by (refine s_o [(19, _)] rfl rfl rfl z_su rfl q_full z_fp z_ss ?_; refine s_o [(39, _)] rfl rfl rfl z_su rfl q_move z_fp z_ss ?_; exact wpS_nil ⟨rfl, rfl⟩)) z_su ?_; clear z_ex)
          refine round_end (x' := j + 1) (le_cut (l' := []) hH (by (simp (maxSteps := 2000000) (disch := omega) [go_sem, -List.map_map]); omega) (Nat.le_refl _) (by simp)) (frLe_frOf (by (simp (maxSteps := 2000000) (disch := omega) [go_sem, -List.map_map, wrap_id]))) ⟨by omega, l, hsc, rfl, _, ?_, rfl⟩ (by omega)
          omega
        · rw [if_pos h3] at hsc
          cases hsc
  · ((repeat refine WpM.seq ?_); refine WpM.condF (by (simp (maxSteps := 2000000) (disch := omega) [go_sem, -List.map_map, hlt])) ?_)
    (refine WpM.exit ?_; (repeat (with_reducible (first | refine thenM_exit ?_ | refine blockM_eq ?_ | refine blockM_ne (by decide) ?_))))
    have : c.drop j = [] := List.drop_eq_nil_of_le (by omega)
    rw [this] at hsc
    obtain rfl : left = u := by simpa [scan] using hsc
    ((repeat refine WpM.seq ?_); have z_ex := (And.intro @k6 (And.intro @hu (And.intro @ti65x True.intro))); refine WpM.regP [] ?_; intro K hK; refine s_o [(6, _)] rfl rfl rfl z_su rfl q_move z_fp z_ss ?_; refine s_o [(40, _)] rfl rfl rfl z_su rfl q_full z_fp z_ss ?_; refine s_o [(41, _)] rfl rfl rfl z_su rfl q_move z_fp z_ss ?_; refine s_wit ?_; intro z_g; (first | refine s_skip rfl z_g z_fp ?_ | (refine s_o [(3, _)] rfl z_g rfl z_su rfl q_load z_fp z_ss ?_)); clear z_g; refine s_wit ?_; intro z_g; (first | refine s_skip rfl z_g z_fp ?_ | (refine s_o [(6, _)] rfl z_g rfl z_su rfl q_move z_fp z_ss ?_)); clear z_g; refine s_wit ?_; intro z_g; (first | refine s_skip rfl z_g z_fp ?_ | (refine s_call (callOf_eq rfl rfl z_lk (mlk_tmp z_lk mlk_nil)) (hC ⟨_, [], H⟩ rfl) rfl z_g z_ip ?_; rintro _ z_S ⟨b, rfl, hR⟩; refine s_put z_fp ?_)); clear z_g; refine s_o [(42, _), (45, _)] rfl rfl rfl z_su rfl q_move z_fp z_ss ?_; refine s_o [(46, _)] rfl rfl rfl z_su rfl q_move z_fp z_ss ?_; refine s_endE [(5, _)] hK z_su ?_; clear hK K; clear z_ex)
    refine WpM.ret ?_
    refine ⟨.inr rfl, Upd.done ⟨_, (by (simp (maxSteps := 2000000) (disch := omega) [go_sem, -List.map_map, resV, resVs, resV1])), hR _ ?_⟩⟩
    rfl
end Go.Proofs.Ytafeehlpmdligaa
