/- Models: plain law (what follows at once is true in every model), and assizeref15.Holds, cnf.True. -/
import Derived.Test.YtafeehlpmdligaaROp
import Derived.Test.YtafeehlpmdligaaRFirst
namespace Go.Proofs.Ytafeehlpmdligaa
open Go.RowKit M
set_option linter.unusedSimpArgs false
set_option linter.unusedVariables false
def bools (m : List Bool) : D := .sl (m.map D.bool)
/-- A literal is true. -/
def litT (m : List Bool) (l : Int) : Bool := m.getD l.natAbs false == decide (0 < l)
def holdsM (m : List Bool) (c : List Int) : Bool := c.any (litT m)
theorem litT_neg (m : List Bool) {l : Int} (h : l ≠ 0) : litT m (-l) = !litT m l := by
  unfold litT
  rw [Int.natAbs_neg]
  have : decide (0 < -l) = !decide (0 < l) := by
    by_cases h1 : 0 < l
    · have h2 : ¬ 0 < -l := by omega
      simp only [h1, h2, decide_true, decide_false, Bool.not_true]
    · have h2 : 0 < -l := by omega
      simp only [h1, h2, decide_true, decide_false, Bool.not_false]
  rw [this]
  cases m.getD l.natAbs false <;> cases decide (0 < l) <;> rfl
def litB (m : List Bool) (l : Int) : Bool := decide (l ≠ 0) && litT m l
theorem litB_ne {m : List Bool} {l : Int} (h : l ≠ 0) : litB m l = litT m l := by simp [litB, h]
theorem model_closed {m : List Bool} {cs : List (List Int)} {x : List Int} (h0 : ∀ c ∈ cs, ∀ l ∈ c, l ≠ 0) (hx : ∀ l ∈ x, l ≠ 0) (hcs : ∀ c ∈ cs, holdsM m c = true) (hn : holdsM m x = false) : Closed cs (x.map (- ·)) (litB m) := by
  have hneg : ∀ l, l ≠ 0 → litB m (-l) = !litB m l := fun l h => by rw [litB_ne (by omega), litB_ne h, litT_neg m h]
  refine ⟨fun l hl => ?_, fun l hl => ?_, fun c hc => ?_⟩
  · have h : l ≠ 0 := by rintro rfl; simp [litB] at hl
    rw [hneg l h, hl]; rfl
  · obtain ⟨y, hy, rfl⟩ := List.mem_map.1 hl
    have h := hx y hy
    rw [hneg y h, litB_ne h]
    have := List.any_eq_false.1 hn y hy
    simpa using this
  · have hcc := hcs c hc
    simp only [holdsM, List.any_eq_true] at hcc
    obtain ⟨t, ht, hT⟩ := hcc
    have ht0 := h0 c hc t ht
    cases hs : scan (litB m) 0 c with
    | none => exact .inl rfl
    | some u =>
      by_cases hu : u = 0
      · subst hu
        have := (scan_zero _ c (h0 c hc)).1 hs t ht
        rw [hneg t ht0, litB_ne ht0, hT] at this
        cases this
      · have h3 := ((scan_some _ u hu c (h0 c hc)).1 hs).2.2 t ht
        refine .inr ⟨u, hu, rfl, ?_⟩
        rcases h3 with h3 | rfl
        · rw [hneg t ht0, litB_ne ht0, hT] at h3; cases h3
        · rw [litB_ne hu]; exact hT
theorem follows_sound {m : List Bool} {cs : List (List Int)} {x : List Int} (h0 : ∀ c ∈ cs, ∀ l ∈ c, l ≠ 0) (hx : ∀ l ∈ x, l ≠ 0) (hcs : ∀ c ∈ cs, holdsM m c = true) (hf : followsB cs x = true) : holdsM m x = true := by
  cases h : holdsM m x with
  | true => rfl
  | false => exact absurd ⟨_, model_closed h0 hx hcs h⟩ (followsB_true.1 hf)
theorem firstGo_sound {m : List Bool} : ∀ (xs cs : List (List Int)) (i : Nat), (∀ c ∈ cs, ∀ l ∈ c, l ≠ 0) → (∀ c ∈ xs, ∀ l ∈ c, l ≠ 0) → (∀ c ∈ cs, holdsM m c = true) → ∀ j (h : j < xs.length), (firstGo cs i xs = -1 ∨ ((i + j : Nat) : Int) < firstGo cs i xs) → holdsM m xs[j] = true
  | [], _, _, _, _, _, j, h, _ => by simp at h
  | x :: xs, cs, i, h0, hx, hcs, j, h, hr => by
    simp only [firstGo] at hr
    cases hf : followsB cs x with
    | false =>
      rw [hf] at hr
      simp only [cond_false] at hr
      omega
    | true =>
      rw [hf] at hr
      simp only [cond_true] at hr
      have hxh := follows_sound h0 (hx x (by simp)) hcs hf
      cases j with
      | zero => exact hxh
      | succ j =>
        simp only [List.getElem_cons_succ]
        refine firstGo_sound xs (cs ++ [x]) (i + 1) ?_ (fun c hc => hx c (by simp [hc])) ?_ j (by simpa using h) (by rw [show i + 1 + j = i + (j + 1) by omega]; exact hr)
        · intro c hc
          rcases List.mem_append.1 hc with hc | hc
          · exact h0 c hc
          · rw [List.mem_singleton] at hc; subst hc; exact hx c (by simp)
        · intro c hc
          rcases List.mem_append.1 hc with hc | hc
          · exact hcs c hc
          · rw [List.mem_singleton] at hc; subst hc; exact hxh
theorem firstGo_le : ∀ (xs cs : List (List Int)) (i : Nat), firstGo cs i xs ≤ ((i + xs.length : Nat) : Int)
  | [], cs, i => by simp only [firstGo]; omega
  | x :: xs, cs, i => by
    simp only [firstGo]
    have := firstGo_le xs (cs ++ [x]) (i + 1)
    cases followsB cs x with
    | true => simp only [cond_true, List.length_cons]; omega
    | false => simp only [cond_false, List.length_cons]; omega
theorem abs_cases' {l : Int} (h : l ≠ 0) : ∃ v : Nat, 0 < v ∧ (l = v ∨ l = -(v : Int)) := ⟨l.natAbs, by omega, by omega⟩
/-- What cnf.True answers. -/
def trueF (n : Int) (cs : List (List Int)) (m : List Bool) : Bool × Int := if checkF n cs = 0 ∧ (m.length : Int) = n + 1 then (cs.all (holdsM m), 0) else (false, 150)
theorem bools_get {m : List Bool} {i : Nat} (h : i < m.length) : (m.map D.bool)[i]? = some (.bool (m.getD i false)) := by
  simp [h]
set_option maxHeartbeats 8000000 in
theorem holds49 (m : List Bool) (l : Int) (h0 : l ≠ 0) (hl : l.natAbs < m.length) (hm : m.length ≤ 140737488351232) : PureC Try.prog 49 [.d (bools m), .d (.int .i64 l)] (.d (.bool (litT m l))) := by
  refine PureC.of (n := 17) Try.func49 rfl rfl (by simp) (by simp only [argL, Nat.reduceAdd] <;> rfl) rfl ?_
  intro n0 H hH
  have hg := bools_get hl
  have hT : litT m l = (m.getD l.natAbs false == decide (0 < l)) := rfl
  generalize m.getD l.natAbs false = b at hg hT
  rw [hT]
  obtain ⟨v, hv, rfl | rfl⟩ := abs_cases' h0
  · have e : (v : Int).natAbs = v := by omega
    rw [e] at hg
    ((repeat refine WpM.seq ?_); have z_ex := True.intro; refine WpM.regPE [] [(0, _), (1, _)] (by (refine s_o [] rfl rfl rfl z_su rfl q_move z_fp z_ss ?_; exact wpS_nil ⟨rfl, rfl⟩)) z_su ?_; clear z_ex)
    ((repeat refine WpM.seq ?_); have z_ex := True.intro; refine WpM.regPE [] [(0, _), (1, _), (6, _)] (by (refine s_o [(1, _)] rfl rfl rfl z_su rfl q_move z_fp z_ss ?_; refine s_o [(5, _)] rfl rfl rfl z_su rfl q_full z_fp z_ss ?_; exact wpS_nil ⟨rfl, rfl⟩)) z_su ?_; clear z_ex)
    ((repeat refine WpM.seq ?_); refine WpM.condF (by (simp (maxSteps := 2000000) (disch := omega) [go_sem, -List.map_map])) ?_)
    refine WpM.skip ?_
    ((repeat refine WpM.seq ?_); have z_ex := (And.intro @bools.eq_1 (And.intro @hg True.intro)); refine WpM.regPE [] [(4, _)] (by (refine s_o [(0, _)] rfl rfl rfl z_su rfl q_move z_fp z_ss ?_; refine s_o [(1, _)] rfl rfl rfl z_su rfl q_move z_fp z_ss ?_; refine s_o [(13, _), (14, _)] rfl rfl rfl z_su rfl q_full z_fp z_ss ?_; refine s_o [(15, _)] rfl rfl rfl z_su rfl q_load z_fp z_ss ?_; refine s_o [(16, _)] rfl rfl rfl z_su rfl q_move z_fp z_ss ?_; exact wpS_nil ⟨rfl, rfl⟩)) z_su ?_; clear z_ex)
    (refine WpM.ret ?_; refine ⟨.inr rfl, Upd.done ?_⟩; (simp (maxSteps := 2000000) (disch := omega) [go_sem, -List.map_map, resV, resVs, resV1, hv]))
  · have e : (-(v : Int)).natAbs = v := by omega
    have e2 : ¬ 0 < -(v : Int) := by omega
    rw [e] at hg
    ((repeat refine WpM.seq ?_); have z_ex := True.intro; refine WpM.regPE [] [(0, _), (1, _)] (by (refine s_o [] rfl rfl rfl z_su rfl q_move z_fp z_ss ?_; exact wpS_nil ⟨rfl, rfl⟩)) z_su ?_; clear z_ex)
    ((repeat refine WpM.seq ?_); have z_ex := True.intro; refine WpM.regPE [] [(0, _), (1, _), (6, _)] (by (refine s_o [(1, _)] rfl rfl rfl z_su rfl q_move z_fp z_ss ?_; refine s_o [(5, _)] rfl rfl rfl z_su rfl q_full z_fp z_ss ?_; exact wpS_nil ⟨rfl, rfl⟩)) z_su ?_; clear z_ex)
    ((repeat refine WpM.seq ?_); refine WpM.condT (by (simp (maxSteps := 2000000) (disch := omega) [go_sem, -List.map_map, hv])) ?_)
    ((repeat refine WpM.seq ?_); have z_ex := (And.intro @bools.eq_1 (And.intro @hg (And.intro @wrap_0sub (And.intro @wrap_neg True.intro)))); refine WpM.regPE [] [(4, _)] (by (refine s_o [(0, _)] rfl rfl rfl z_su rfl q_move z_fp z_ss ?_; refine s_o [(1, _)] rfl rfl rfl z_su rfl q_move z_fp z_ss ?_; refine s_o [(8, _)] rfl rfl rfl z_su rfl q_unOp z_fp z_ss ?_; refine s_o [(7, _), (9, _)] rfl rfl rfl z_su rfl q_full z_fp z_ss ?_; refine s_o [(10, _)] rfl rfl rfl z_su rfl q_load z_fp z_ss ?_; refine s_o [(11, _)] rfl rfl rfl z_su rfl q_unOp z_fp z_ss ?_; refine s_o [(12, _)] rfl rfl rfl z_su rfl q_move z_fp z_ss ?_; exact wpS_nil ⟨rfl, rfl⟩)) z_su ?_; clear z_ex)
    have e3 : (!b) = (b == decide (0 < -(v : Int))) := by rw [decide_eq_false e2]; cases b <;> rfl
    rw [← e3]
    (refine WpM.ret ?_; refine ⟨.inr rfl, Upd.done ?_⟩; (simp (maxSteps := 2000000) (disch := omega) [go_sem, -List.map_map, resV, resVs, resV1,]))
end Go.Proofs.Ytafeehlpmdligaa
