/- assizelaw16.light: how large the proof is. -/
import Derived.Test.YtafeehlpmdligaaROp
import Derived.Test.YtafeehlpmdligaaRCheck
namespace Go.Proofs.Ytafeehlpmdligaa
open Go.RowKit M
set_option linter.unusedSimpArgs false
set_option linter.unusedVariables false
def mass : List (List Int) → Nat
  | [] => 0
  | c :: r => 1 + c.length + mass r
def lightP (n : Int) (cs xs : List (List Int)) : Bool := decide (mass cs + mass xs ≤ 20000 ∧ xs.length ≤ 500 ∧ n ≤ 4096)
theorem mass_append (a b : List (List Int)) : mass (a ++ b) = mass a + mass b := by
  induction a with
  | nil => simp [mass]
  | cons c r ih => simp only [List.cons_append, mass, ih]; omega
theorem mass_take {a : List (List Int)} {j : Nat} (h : j < a.length) : mass (a.take (j + 1)) = mass (a.take j) + (1 + a[j].length) := by
  rw [List.take_succ_eq_append_getElem h, mass_append]
  simp [mass]
theorem mass_le {a : List (List Int)} (h : ∀ c ∈ a, c.length ≤ 1048576) : mass a ≤ a.length * 1048577 := by
  induction a with
  | nil => simp [mass]
  | cons c r ih =>
    have := h c (by simp)
    have := ih (fun c hc => h c (by simp [hc]))
    simp only [mass, List.length_cons]
    omega
theorem mass_take_le (a : List (List Int)) (j : Nat) : mass (a.take j) ≤ mass a := by
  have := mass_append (a.take j) (a.drop j)
  rw [List.take_append_drop] at this
  omega
set_option maxHeartbeats 8000000 in
theorem light15 (n : Int) (cs xs : List (List Int)) (hc : cs.length ≤ 1048576) (hcs : ∀ c ∈ cs, c.length ≤ 1048576) (hx : xs.length ≤ 1048576) (hxs : ∀ c ∈ xs, c.length ≤ 1048576) : PureC Try.prog 15 [.d (cnf n cs), .d (cls xs)] (.d (.bool (lightP n cs xs))) := by
  have hm1 := mass_le hcs
  have hm2 := mass_le hxs
  refine PureC.of (n := 50) Try.func15 rfl rfl (by simp) (by simp only [argL, Nat.reduceAdd] <;> rfl) rfl ?_
  intro n0 H hH
  ((repeat refine WpM.seq ?_); have z_ex := (And.intro @cnf.eq_1 True.intro); refine WpM.regPE [] [(1, _), (2, _)] (by (refine s_o [(0, _)] rfl rfl rfl z_su rfl q_box z_fp z_ss ?_; refine s_o [] rfl rfl rfl z_su rfl q_move z_fp z_ss ?_; exact wpS_nil ⟨rfl, rfl⟩)) z_su ?_; clear z_ex)
  ((repeat refine WpM.seq ?_); have z_ex := True.intro; refine WpM.regPE [] [(1, _), (2, _), (5, _)] (by (refine s_o [] rfl rfl rfl z_su rfl q_move z_fp z_ss ?_; exact wpS_nil ⟨rfl, rfl⟩)) z_su ?_; clear z_ex)
  ((repeat refine WpM.seq ?_); have z_ex := True.intro; refine WpM.regPE [] [(1, _), (2, _), (5, _), (6, _)] (by (refine s_o [] rfl rfl rfl z_su rfl q_move z_fp z_ss ?_; exact wpS_nil ⟨rfl, rfl⟩)) z_su ?_; clear z_ex)
  ((repeat refine WpM.seq ?_); refine WpM.block ?_)
  refine WpM.loop (fun (j : Nat) fr S => j ≤ cs.length ∧ ∃ m : Nat, m = mass (cs.take j) ∧ fr = frOf [(1, .d (cls xs)), (2, .ptr n0 0), (5, .d (.int .i64 m)), (6, .d (.int .i64 j))] ∧ ∃ nx, n0 < nx ∧ S = ⟨nx, [(n0, some (.box [.d (.int .i64 n), .d (cls cs)]))], H⟩) (fun j => cs.length - j) 0 (St.Le.refl _) (frLe_frOf (by (simp (maxSteps := 2000000) (disch := omega) [go_sem, -List.map_map, cls]))) ⟨by omega, 0, rfl, rfl, _, ?_, rfl⟩ ?_
  · omega
  rintro j fr S' ⟨hj, m, hm, rfl, nx, hnx, rfl⟩
  ((repeat refine WpM.seq ?_); have z_ex := (And.intro @cls.eq_1 True.intro); refine WpM.regPE [] [(1, _), (2, _), (5, _), (6, _), (12, _)] (by (refine s_o [(6, _)] rfl rfl rfl z_su rfl q_move z_fp z_ss ?_; refine s_o [(2, _)] rfl rfl rfl z_su rfl q_fieldAddr z_fp z_ss ?_; refine s_o [(9, _)] rfl rfl rfl z_su rfl q_load z_fp z_ss ?_; refine s_o [(10, _)] rfl rfl rfl z_su rfl q_full z_fp z_ss ?_; refine s_o [(8, _), (11, _)] rfl rfl rfl z_su rfl q_full z_fp z_ss ?_; exact wpS_nil ⟨rfl, rfl⟩)) z_su ?_; clear z_ex)
  by_cases hlt : j < cs.length
  · ((repeat refine WpM.seq ?_); refine WpM.condT (by (simp (maxSteps := 2000000) (disch := omega) [go_sem, -List.map_map, hlt])) ?_)
    refine WpM.skip ?_
    ((repeat refine WpM.seq ?_); refine WpM.block ?_)
    have hl := hcs cs[j] (List.getElem_mem _)
    have hs := mass_take hlt
    have hle := mass_take_le cs (j + 1)
    obtain ⟨c, hce⟩ : ∃ c, c = cs[j] := ⟨_, rfl⟩
    have hget : (cs.map ints)[j]? = some (ints c) := by rw [lens cs j hlt, hce]
    rw [← hce] at hl hs
    clear hce
    ((repeat refine WpM.seq ?_); have z_ex := (And.intro @hget (And.intro @cls.eq_1 (And.intro @ints.eq_1 (And.intro @wrap_id True.intro)))); refine WpM.regPE [] [(1, _), (2, _), (5, _), (6, _)] (by (refine s_o [(5, _)] rfl rfl rfl z_su rfl q_move z_fp z_ss ?_; refine s_o [(2, _)] rfl rfl rfl z_su rfl q_fieldAddr z_fp z_ss ?_; refine s_o [(16, _)] rfl rfl rfl z_su rfl q_load z_fp z_ss ?_; refine s_o [(6, _)] rfl rfl rfl z_su rfl q_move z_fp z_ss ?_; refine s_o [(17, _), (18, _)] rfl rfl rfl z_su rfl q_full z_fp z_ss ?_; refine s_o [(19, _)] rfl rfl rfl z_su rfl q_load z_fp z_ss ?_; refine s_o [(20, _)] rfl rfl rfl z_su rfl q_full z_fp z_ss ?_; refine s_o [(21, _)] rfl rfl rfl z_su rfl q_full z_fp z_ss ?_; refine s_o [(15, _), (22, _)] rfl rfl rfl z_su rfl q_full z_fp z_ss ?_; refine s_o [(23, _)] rfl rfl rfl z_su rfl q_move z_fp z_ss ?_; exact wpS_nil ⟨rfl, rfl⟩)) z_su ?_; clear z_ex)
    ((repeat refine WpM.seq ?_); have z_ex := (And.intro @wrap_id True.intro); refine WpM.regPE [] [(1, _), (2, _), (5, _), (6, _)] (by (refine s_o [(6, _)] rfl rfl rfl z_su rfl q_move z_fp z_ss ?_; refine s_o [(13, _)] rfl rfl rfl z_su rfl q_full z_fp z_ss ?_; refine s_o [(14, _)] rfl rfl rfl z_su rfl q_move z_fp z_ss ?_; exact wpS_nil ⟨rfl, rfl⟩)) z_su ?_; clear z_ex)
    refine round_end (x' := j + 1) (St.Le.refl _) (frLe_frOf (l := [(1, .d (cls xs)), (2, .ptr n0 0), (5, .d (.int .i64 ((m + (1 + c.length) : Nat) : Int))), (6, .d (.int .i64 ((j + 1 : Nat) : Int)))]) (by (simp (maxSteps := 2000000) (disch := omega) [go_sem, -List.map_map, wrap_id, Int.natCast_add]))) ⟨by omega, m + (1 + c.length), by omega, rfl, _, ?_, rfl⟩ (by omega)
    omega
  · ((repeat refine WpM.seq ?_); refine WpM.condF (by (simp (maxSteps := 2000000) (disch := omega) [go_sem, -List.map_map, hlt])) ?_)
    (refine WpM.exit ?_; (repeat (with_reducible (first | refine thenM_exit ?_ | refine blockM_eq ?_ | refine blockM_ne (by decide) ?_))))
    obtain rfl : j = cs.length := by omega
    rw [List.take_length] at hm
    ((repeat refine WpM.seq ?_); have z_ex := True.intro; refine WpM.regPE [] [(1, _), (2, _), (5, _), (7, _)] (by (refine s_o [] rfl rfl rfl z_su rfl q_move z_fp z_ss ?_; exact wpS_nil ⟨rfl, rfl⟩)) z_su ?_; clear z_ex)
    ((repeat refine WpM.seq ?_); refine WpM.block ?_)
    have hm2' := mass_take_le xs
    refine WpM.loop (fun (j : Nat) fr S => j ≤ xs.length ∧ ∃ q : Nat, q = m + mass (xs.take j) ∧ fr = frOf [(1, .d (cls xs)), (2, .ptr n0 0), (5, .d (.int .i64 q)), (7, .d (.int .i64 j))] ∧ ∃ nx, n0 < nx ∧ S = ⟨nx, [(n0, some (.box [.d (.int .i64 n), .d (cls cs)]))], H⟩) (fun j => xs.length - j) 0 (St.Le.refl _) (frLe_frOf (by (simp (maxSteps := 2000000) (disch := omega) [go_sem, -List.map_map, cls]))) ⟨by omega, m, rfl, rfl, _, ?_, rfl⟩ ?_
    · omega
    rintro j fr S' ⟨hj, q, hq, rfl, ny, hny, rfl⟩
    ((repeat refine WpM.seq ?_); have z_ex := (And.intro @cls.eq_1 True.intro); refine WpM.regPE [] [(1, _), (2, _), (5, _), (7, _), (27, _)] (by (refine s_o [(7, _)] rfl rfl rfl z_su rfl q_move z_fp z_ss ?_; refine s_o [(1, _)] rfl rfl rfl z_su rfl q_move z_fp z_ss ?_; refine s_o [(25, _)] rfl rfl rfl z_su rfl q_full z_fp z_ss ?_; refine s_o [(24, _), (26, _)] rfl rfl rfl z_su rfl q_full z_fp z_ss ?_; exact wpS_nil ⟨rfl, rfl⟩)) z_su ?_; clear z_ex)
    by_cases hlt : j < xs.length
    · ((repeat refine WpM.seq ?_); refine WpM.condT (by (simp (maxSteps := 2000000) (disch := omega) [go_sem, -List.map_map, hlt])) ?_)
      refine WpM.skip ?_
      ((repeat refine WpM.seq ?_); refine WpM.block ?_)
      have hl := hxs xs[j] (List.getElem_mem _)
      have hs := mass_take hlt
      have hle := mass_take_le xs (j + 1)
      obtain ⟨c, hce⟩ : ∃ c, c = xs[j] := ⟨_, rfl⟩
      have hget : (xs.map ints)[j]? = some (ints c) := by rw [lens xs j hlt, hce]
      rw [← hce] at hl hs
      clear hce
      ((repeat refine WpM.seq ?_); have z_ex := (And.intro @hget (And.intro @cls.eq_1 (And.intro @ints.eq_1 (And.intro @wrap_id True.intro)))); refine WpM.regPE [] [(1, _), (2, _), (5, _), (7, _)] (by (refine s_o [(5, _)] rfl rfl rfl z_su rfl q_move z_fp z_ss ?_; refine s_o [(1, _)] rfl rfl rfl z_su rfl q_move z_fp z_ss ?_; refine s_o [(7, _)] rfl rfl rfl z_su rfl q_move z_fp z_ss ?_; refine s_o [(31, _), (32, _)] rfl rfl rfl z_su rfl q_full z_fp z_ss ?_; refine s_o [(33, _)] rfl rfl rfl z_su rfl q_load z_fp z_ss ?_; refine s_o [(34, _)] rfl rfl rfl z_su rfl q_full z_fp z_ss ?_; refine s_o [(35, _)] rfl rfl rfl z_su rfl q_full z_fp z_ss ?_; refine s_o [(30, _), (36, _)] rfl rfl rfl z_su rfl q_full z_fp z_ss ?_; refine s_o [(37, _)] rfl rfl rfl z_su rfl q_move z_fp z_ss ?_; exact wpS_nil ⟨rfl, rfl⟩)) z_su ?_; clear z_ex)
      ((repeat refine WpM.seq ?_); have z_ex := (And.intro @wrap_id True.intro); refine WpM.regPE [] [(1, _), (2, _), (5, _), (7, _)] (by (refine s_o [(7, _)] rfl rfl rfl z_su rfl q_move z_fp z_ss ?_; refine s_o [(28, _)] rfl rfl rfl z_su rfl q_full z_fp z_ss ?_; refine s_o [(29, _)] rfl rfl rfl z_su rfl q_move z_fp z_ss ?_; exact wpS_nil ⟨rfl, rfl⟩)) z_su ?_; clear z_ex)
      refine round_end (x' := j + 1) (St.Le.refl _) (frLe_frOf (l := [(1, .d (cls xs)), (2, .ptr n0 0), (5, .d (.int .i64 ((q + (1 + c.length) : Nat) : Int))), (7, .d (.int .i64 ((j + 1 : Nat) : Int)))]) (by (simp (maxSteps := 2000000) (disch := omega) [go_sem, -List.map_map, wrap_id, Int.natCast_add]))) ⟨by omega, q + (1 + c.length), by omega, rfl, _, ?_, rfl⟩ (by omega)
      omega
    · ((repeat refine WpM.seq ?_); refine WpM.condF (by (simp (maxSteps := 2000000) (disch := omega) [go_sem, -List.map_map, hlt])) ?_)
      (refine WpM.exit ?_; (repeat (with_reducible (first | refine thenM_exit ?_ | refine blockM_eq ?_ | refine blockM_ne (by decide) ?_))))
      obtain rfl : j = xs.length := by omega
      rw [List.take_length] at hq
      by_cases h1 : (q : Int) ≤ 20000
      · by_cases h2 : (xs.length : Int) ≤ 500
        · by_cases h3 : n ≤ 4096
          · have hr : lightP n cs xs = true := by simp only [lightP]; exact decide_eq_true ⟨by omega, by omega, h3⟩
            ((repeat refine WpM.seq ?_); have z_ex := (And.intro @h1 (And.intro @h2 (And.intro @h3 (And.intro @cls.eq_1 True.intro)))); refine WpM.regPE [] [(4, _)] (by (refine s_o [(5, _)] rfl rfl rfl z_su rfl q_move z_fp z_ss ?_; refine s_o [(38, _)] rfl rfl rfl z_su rfl q_full z_fp z_ss ?_; refine s_o [(39, _)] rfl rfl rfl z_su rfl q_move z_fp z_ss ?_; refine s_wit ?_; intro z_g; (first | refine s_skip rfl z_g z_fp ?_ | (refine s_o [(1, _)] rfl z_g rfl z_su rfl q_move z_fp z_ss ?_)); clear z_g; refine s_wit ?_; intro z_g; (first | refine s_skip rfl z_g z_fp ?_ | (refine s_o [(41, _)] rfl z_g rfl z_su rfl q_full z_fp z_ss ?_)); clear z_g; refine s_wit ?_; intro z_g; (first | refine s_skip rfl z_g z_fp ?_ | (refine s_o [(42, _)] rfl z_g rfl z_su rfl q_full z_fp z_ss ?_)); clear z_g; refine s_o [(40, _), (43, _)] rfl rfl rfl z_su rfl q_move z_fp z_ss ?_; refine s_o [(44, _)] rfl rfl rfl z_su rfl q_move z_fp z_ss ?_; refine s_wit ?_; intro z_g; (first | refine s_skip rfl z_g z_fp ?_ | (refine s_o [(2, _)] rfl z_g rfl z_su rfl q_fieldAddr z_fp z_ss ?_)); clear z_g; refine s_wit ?_; intro z_g; (first | refine s_skip rfl z_g z_fp ?_ | (refine s_o [(46, _)] rfl z_g rfl z_su rfl q_load z_fp z_ss ?_)); clear z_g; refine s_wit ?_; intro z_g; (first | refine s_skip rfl z_g z_fp ?_ | (refine s_o [(47, _)] rfl z_g rfl z_su rfl q_full z_fp z_ss ?_)); clear z_g; refine s_o [(45, _), (48, _)] rfl rfl rfl z_su rfl q_move z_fp z_ss ?_; refine s_o [(49, _)] rfl rfl rfl z_su rfl q_move z_fp z_ss ?_; exact wpS_nil ⟨rfl, rfl⟩)) z_su ?_; clear z_ex)
            (refine WpM.ret ?_; refine ⟨.inr rfl, Upd.done ?_⟩; (simp (maxSteps := 2000000) (disch := omega) [go_sem, -List.map_map, resV, resVs, resV1, hr]))
          · have hr : lightP n cs xs = false := by simp only [lightP]; exact decide_eq_false (by omega)
            ((repeat refine WpM.seq ?_); have z_ex := (And.intro @h1 (And.intro @h2 (And.intro @h3 (And.intro @cls.eq_1 True.intro)))); refine WpM.regPE [] [(4, _)] (by (refine s_o [(5, _)] rfl rfl rfl z_su rfl q_move z_fp z_ss ?_; refine s_o [(38, _)] rfl rfl rfl z_su rfl q_full z_fp z_ss ?_; refine s_o [(39, _)] rfl rfl rfl z_su rfl q_move z_fp z_ss ?_; refine s_wit ?_; intro z_g; (first | refine s_skip rfl z_g z_fp ?_ | (refine s_o [(1, _)] rfl z_g rfl z_su rfl q_move z_fp z_ss ?_)); clear z_g; refine s_wit ?_; intro z_g; (first | refine s_skip rfl z_g z_fp ?_ | (refine s_o [(41, _)] rfl z_g rfl z_su rfl q_full z_fp z_ss ?_)); clear z_g; refine s_wit ?_; intro z_g; (first | refine s_skip rfl z_g z_fp ?_ | (refine s_o [(42, _)] rfl z_g rfl z_su rfl q_full z_fp z_ss ?_)); clear z_g; refine s_o [(40, _), (43, _)] rfl rfl rfl z_su rfl q_move z_fp z_ss ?_; refine s_o [(44, _)] rfl rfl rfl z_su rfl q_move z_fp z_ss ?_; refine s_wit ?_; intro z_g; (first | refine s_skip rfl z_g z_fp ?_ | (refine s_o [(2, _)] rfl z_g rfl z_su rfl q_fieldAddr z_fp z_ss ?_)); clear z_g; refine s_wit ?_; intro z_g; (first | refine s_skip rfl z_g z_fp ?_ | (refine s_o [(46, _)] rfl z_g rfl z_su rfl q_load z_fp z_ss ?_)); clear z_g; refine s_wit ?_; intro z_g; (first | refine s_skip rfl z_g z_fp ?_ | (refine s_o [(47, _)] rfl z_g rfl z_su rfl q_full z_fp z_ss ?_)); clear z_g; refine s_o [(45, _), (48, _)] rfl rfl rfl z_su rfl q_move z_fp z_ss ?_; refine s_o [(49, _)] rfl rfl rfl z_su rfl q_move z_fp z_ss ?_; exact wpS_nil ⟨rfl, rfl⟩)) z_su ?_; clear z_ex)
            (refine WpM.ret ?_; refine ⟨.inr rfl, Upd.done ?_⟩; (simp (maxSteps := 2000000) (disch := omega) [go_sem, -List.map_map, resV, resVs, resV1, hr]))
        · have hr : lightP n cs xs = false := by simp only [lightP]; exact decide_eq_false (by omega)
          ((repeat refine WpM.seq ?_); have z_ex := (And.intro @h1 (And.intro @h2 (And.intro @cls.eq_1 True.intro))); refine WpM.regPE [] [(4, _)] (by (refine s_o [(5, _)] rfl rfl rfl z_su rfl q_move z_fp z_ss ?_; refine s_o [(38, _)] rfl rfl rfl z_su rfl q_full z_fp z_ss ?_; refine s_o [(39, _)] rfl rfl rfl z_su rfl q_move z_fp z_ss ?_; refine s_wit ?_; intro z_g; (first | refine s_skip rfl z_g z_fp ?_ | (refine s_o [(1, _)] rfl z_g rfl z_su rfl q_move z_fp z_ss ?_)); clear z_g; refine s_wit ?_; intro z_g; (first | refine s_skip rfl z_g z_fp ?_ | (refine s_o [(41, _)] rfl z_g rfl z_su rfl q_full z_fp z_ss ?_)); clear z_g; refine s_wit ?_; intro z_g; (first | refine s_skip rfl z_g z_fp ?_ | (refine s_o [(42, _)] rfl z_g rfl z_su rfl q_full z_fp z_ss ?_)); clear z_g; refine s_o [(40, _), (43, _)] rfl rfl rfl z_su rfl q_move z_fp z_ss ?_; refine s_o [(44, _)] rfl rfl rfl z_su rfl q_move z_fp z_ss ?_; refine s_wit ?_; intro z_g; (first | refine s_skip rfl z_g z_fp ?_ | (refine s_o [(2, _)] rfl z_g rfl z_su rfl q_fieldAddr z_fp z_ss ?_)); clear z_g; refine s_wit ?_; intro z_g; (first | refine s_skip rfl z_g z_fp ?_ | (refine s_o [(46, _)] rfl z_g rfl z_su rfl q_load z_fp z_ss ?_)); clear z_g; refine s_wit ?_; intro z_g; (first | refine s_skip rfl z_g z_fp ?_ | (refine s_o [(47, _)] rfl z_g rfl z_su rfl q_full z_fp z_ss ?_)); clear z_g; refine s_o [(45, _), (48, _)] rfl rfl rfl z_su rfl q_move z_fp z_ss ?_; refine s_o [(49, _)] rfl rfl rfl z_su rfl q_move z_fp z_ss ?_; exact wpS_nil ⟨rfl, rfl⟩)) z_su ?_; clear z_ex)
          (refine WpM.ret ?_; refine ⟨.inr rfl, Upd.done ?_⟩; (simp (maxSteps := 2000000) (disch := omega) [go_sem, -List.map_map, resV, resVs, resV1, hr]))
      · have hr : lightP n cs xs = false := by simp only [lightP]; exact decide_eq_false (by omega)
        ((repeat refine WpM.seq ?_); have z_ex := (And.intro @h1 (And.intro @cls.eq_1 True.intro)); refine WpM.regPE [] [(4, _)] (by (refine s_o [(5, _)] rfl rfl rfl z_su rfl q_move z_fp z_ss ?_; refine s_o [(38, _)] rfl rfl rfl z_su rfl q_full z_fp z_ss ?_; refine s_o [(39, _)] rfl rfl rfl z_su rfl q_move z_fp z_ss ?_; refine s_wit ?_; intro z_g; (first | refine s_skip rfl z_g z_fp ?_ | (refine s_o [(1, _)] rfl z_g rfl z_su rfl q_move z_fp z_ss ?_)); clear z_g; refine s_wit ?_; intro z_g; (first | refine s_skip rfl z_g z_fp ?_ | (refine s_o [(41, _)] rfl z_g rfl z_su rfl q_full z_fp z_ss ?_)); clear z_g; refine s_wit ?_; intro z_g; (first | refine s_skip rfl z_g z_fp ?_ | (refine s_o [(42, _)] rfl z_g rfl z_su rfl q_full z_fp z_ss ?_)); clear z_g; refine s_o [(40, _), (43, _)] rfl rfl rfl z_su rfl q_move z_fp z_ss ?_; refine s_o [(44, _)] rfl rfl rfl z_su rfl q_move z_fp z_ss ?_; refine s_wit ?_; intro z_g; (first | refine s_skip rfl z_g z_fp ?_ | (refine s_o [(2, _)] rfl z_g rfl z_su rfl q_fieldAddr z_fp z_ss ?_)); clear z_g; refine s_wit ?_; intro z_g; (first | refine s_skip rfl z_g z_fp ?_ | (refine s_o [(46, _)] rfl z_g rfl z_su rfl q_load z_fp z_ss ?_)); clear z_g; refine s_wit ?_; intro z_g; (first | refine s_skip rfl z_g z_fp ?_ | (refine s_o [(47, _)] rfl z_g rfl z_su rfl q_full z_fp z_ss ?_)); clear z_g; refine s_o [(45, _), (48, _)] rfl rfl rfl z_su rfl q_move z_fp z_ss ?_; refine s_o [(49, _)] rfl rfl rfl z_su rfl q_move z_fp z_ss ?_; exact wpS_nil ⟨rfl, rfl⟩)) z_su ?_; clear z_ex)
        (refine WpM.ret ?_; refine ⟨.inr rfl, Upd.done ?_⟩; (simp (maxSteps := 2000000) (disch := omega) [go_sem, -List.map_map, resV, resVs, resV1, hr]))
end Go.Proofs.Ytafeehlpmdligaa
