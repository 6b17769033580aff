/- Layer 5: kinds of data and small functions. -/
import Derived.Test.YtjjmedgibcffhaaRT
import Derived.Test.YtjjmedgibcffhaaROp2
import Derived.Test.YtjjmedgibcffhaaRKa
namespace Go.Proofs.Ytjjmedgibcffhaa
open Go.RowKit M
set_option linter.unusedSimpArgs false
set_option linter.unusedVariables false
def encCall (c : CallD) : D := .agg [.int .i64 c.kind, .str c.key, .int .i64 c.arg, .bool c.got, .sl (c.vals.map (D.int .i64))]
def encEvent (e : EventD) : D := .agg [.int .i64 e.proc, .int .i64 e.kind, .sl (e.calls.map encCall)]
structure OpD where
  kind : Int
  key : Int
  arg : Int
  got : Bool
  vals : List Int
structure TxnD where
  proc : Int
  status : Int
  frm : Int
  to : Int
  ops : List OpD
structure HistD where
  keys : List ByteArray
  txns : List TxnD
def ints (l : List Int) : D := .sl (l.map (D.int .i64))
def strs (l : List ByteArray) : D := .sl (l.map D.str)
def encOp (o : OpD) : D := .agg [.int .i64 o.kind, .int .i64 o.key, .int .i64 o.arg, .bool o.got, .sl (o.vals.map (D.int .i64))]
def encTxn (t : TxnD) : D := .agg [.int .i64 t.proc, .int .i64 t.status, .int .i64 t.frm, .int .i64 t.to, .sl (t.ops.map encOp)]
def encHist (h : HistD) : D := .agg [.sl (h.keys.map D.str), .sl (h.txns.map encTxn)]
theorem wrap_id {x : Int} (h1 : -9223372036854775808 ≤ x) (h2 : x ≤ 9223372036854775807) : IntKind.i64.wrap x = x := by
  rw [IntKind.wrap_i64]; omega
theorem okEl_call (c : CallD) : okEl 5 (encCall c) = true := rfl
theorem okEl_event (c : EventD) : okEl 3 (encEvent c) = true := rfl
theorem okEl_op (c : OpD) : okEl 5 (encOp c) = true := rfl
theorem okEl_txn (c : TxnD) : okEl 5 (encTxn c) = true := rfl
/-- The type of a kind of operation. -/
def tyOf (k : Int) : Int := (k - 1) % 4 + 1
theorem typeOf57 (k : Int) (h1 : 1 ≤ k) (h2 : k ≤ 8) : PureC Try.prog 57 [.d (.int .i64 k)] (.d (.int .i64 (tyOf k))) := by
  refine PureC.of (n := 7) Try.func57 rfl rfl (by simp) (by simp only [argL, Nat.reduceAdd] <;> rfl) rfl ?_
  intro n0 H hH
  obtain rfl | rfl | rfl | rfl | rfl | rfl | rfl | rfl : k = 1 ∨ k = 2 ∨ k = 3 ∨ k = 4 ∨ k = 5 ∨ k = 6 ∨ k = 7 ∨ k = 8 := by omega
  all_goals (((repeat refine WpM.seq ?_); have z_ex := True.intro; refine WpM.regPE [] [(0, _)] (by (refine s_m [] ?_; exact wpS_nil ⟨rfl, rfl⟩)) z_su ?_; clear z_ex); ((repeat refine WpM.seq ?_); have z_ex := True.intro; refine WpM.regPE [] [(2, _)] (by (refine s_m [(0, _)] ?_; refine s_q [(3, _)] ?_; refine s_q [(4, _)] ?_; refine s_q [(5, _)] ?_; refine s_m [(6, _)] ?_; exact wpS_nil ⟨rfl, rfl⟩)) z_su ?_; clear z_ex); (refine WpM.ret ?_; refine ⟨.inr rfl, Upd.done ?_⟩; (simp (maxSteps := 2000000) (disch := omega) [go_sem, -List.map_map, resV, resVs, resV1, tyOf])); all_goals decide)
theorem of35 (k : Int) (h1 : 1 ≤ k) (h2 : k ≤ 8) : PureC Try.prog 35 [.d (.int .i64 k)] (.d (.int .i64 (tyOf k))) := by
  refine PureC.of (n := 7) Try.func35 rfl rfl (by simp) (by simp only [argL, Nat.reduceAdd] <;> rfl) rfl ?_
  intro n0 H hH
  obtain rfl | rfl | rfl | rfl | rfl | rfl | rfl | rfl : k = 1 ∨ k = 2 ∨ k = 3 ∨ k = 4 ∨ k = 5 ∨ k = 6 ∨ k = 7 ∨ k = 8 := by omega
  all_goals (((repeat refine WpM.seq ?_); have z_ex := True.intro; refine WpM.regPE [] [(0, _)] (by (refine s_m [] ?_; exact wpS_nil ⟨rfl, rfl⟩)) z_su ?_; clear z_ex); ((repeat refine WpM.seq ?_); have z_ex := True.intro; refine WpM.regPE [] [(2, _)] (by (refine s_m [(0, _)] ?_; refine s_q [(3, _)] ?_; refine s_q [(4, _)] ?_; refine s_q [(5, _)] ?_; refine s_m [(6, _)] ?_; exact wpS_nil ⟨rfl, rfl⟩)) z_su ?_; clear z_ex); (refine WpM.ret ?_; refine ⟨.inr rfl, Upd.done ?_⟩; (simp (maxSteps := 2000000) (disch := omega) [go_sem, -List.map_map, resV, resVs, resV1, tyOf])); all_goals decide)
theorem writes67 (k : Int) : PureC Try.prog 67 [.d (.int .i64 k)] (.d (.bool (decide (k ≤ 4)))) := by
  refine PureC.of (n := 5) Try.func67 rfl rfl (by simp) (by simp only [argL, Nat.reduceAdd] <;> rfl) rfl ?_
  intro n0 H hH
  ((repeat refine WpM.seq ?_); have z_ex := True.intro; refine WpM.regPE [] [(0, _)] (by (refine s_m [] ?_; exact wpS_nil ⟨rfl, rfl⟩)) z_su ?_; clear z_ex)
  ((repeat refine WpM.seq ?_); have z_ex := True.intro; refine WpM.regPE [] [(2, _)] (by (refine s_m [(0, _)] ?_; refine s_q [(3, _)] ?_; refine s_m [(4, _)] ?_; exact wpS_nil ⟨rfl, rfl⟩)) z_su ?_; clear z_ex)
  (refine WpM.ret ?_; refine ⟨.inr rfl, Upd.done ?_⟩; (simp (maxSteps := 2000000) (disch := omega) [go_sem, -List.map_map, resV, resVs, resV1,]))
/-- The number of the first that is s. -/
def findN : List ByteArray → ByteArray → Option Nat
  | [], _ => none
  | k :: r, s => if k = s then some 0 else (findN r s).map (· + 1)
def findI (l : List ByteArray) (s : ByteArray) : Int := match findN l s with | some j => j | none => -1
theorem findN_some : ∀ {l : List ByteArray} {s : ByteArray} {j : Nat}, findN l s = some j → ∃ h : j < l.length, l[j] = s ∧ ∀ i (h : i < l.length), i < j → l[i] ≠ s
  | k :: r, s, j, h => by
    unfold findN at h
    split at h
    · injection h with h
      subst h
      exact ⟨by simp, by simpa, fun i _ hi => by omega⟩
    · rename_i hne
      simp only [Option.map_eq_some_iff] at h
      obtain ⟨j', h, rfl⟩ := h
      obtain ⟨h1, h2, h3⟩ := findN_some h
      refine ⟨by simp; omega, by simpa, fun i hi hij => ?_⟩
      cases i with
      | zero => simpa using hne
      | succ i => simpa using h3 i (by simpa using hi) (by omega)
theorem findN_hit : ∀ (l : List ByteArray) (s : ByteArray) (j : Nat) (h : j < l.length), (∀ i (h : i < l.length), i < j → l[i] ≠ s) → l[j] = s → findN l s = some j
  | k :: r, s, 0, h, _, he => by
    simp only [List.getElem_cons_zero] at he
    simp [findN, he]
  | k :: r, s, j + 1, h, hn, he => by
    have h0 := hn 0 (by simp) (by omega)
    simp only [List.getElem_cons_zero] at h0
    simp only [List.getElem_cons_succ] at he
    have ih := findN_hit r s j (by simpa using h) (fun i hi hij => by have := hn (i + 1) (by simpa using hi) (by omega); simpa using this) he
    rw [findN, if_neg h0, ih]
    rfl
theorem findN_no : ∀ (l : List ByteArray) (s : ByteArray), s ∉ l → findN l s = none
  | [], _, _ => rfl
  | k :: r, s, h => by
    rw [findN, if_neg (by rintro rfl; simp at h), findN_no r s (by simp at h; exact h.2)]
    rfl
theorem findN_mem {l : List ByteArray} {s : ByteArray} : s ∈ l ↔ ∃ j, findN l s = some j := by
  constructor
  · intro h
    cases hf : findN l s with
    | some j => exact ⟨j, rfl⟩
    | none =>
      induction l with
      | nil => cases h
      | cons k r ih =>
        unfold findN at hf
        split at hf
        · cases hf
        · rename_i hne
          simp at hf
          rcases List.mem_cons.1 h with rfl | h
          · exact absurd rfl hne
          · obtain ⟨j, hj⟩ := ih h hf
            cases hj
  · rintro ⟨j, hj⟩
    obtain ⟨h, rfl, _⟩ := findN_some hj
    exact List.getElem_mem _
set_option maxHeartbeats 8000000 in
theorem find51 (l : List ByteArray) (s : ByteArray) (hl : l.length ≤ 140737488351232) : PureC Try.prog 51 [.d (strs l), .d (.str s)] (.d (.int .i64 (findI l s))) := by
  refine PureC.of (n := 19) Try.func51 rfl rfl (by simp) (by simp only [argL, Nat.reduceAdd] <;> rfl) rfl ?_
  intro n0 H hH
  ((repeat refine WpM.seq ?_); have z_ex := True.intro; refine WpM.regPE [] [(0, _), (1, _)] (by (refine s_m [] ?_; exact wpS_nil ⟨rfl, rfl⟩)) z_su ?_; clear z_ex)
  ((repeat refine WpM.seq ?_); have z_ex := True.intro; refine WpM.regPE [] [(0, _), (1, _), (5, _)] (by (refine s_m [] ?_; exact wpS_nil ⟨rfl, rfl⟩)) z_su ?_; clear z_ex)
  ((repeat refine WpM.seq ?_); refine WpM.block ?_)
  refine WpM.loop (fun (j : Nat) fr S => j ≤ l.length ∧ (∀ i (h : i < l.length), i < j → l[i] ≠ s) ∧ fr = frOf [(0, .d (strs l)), (1, .d (.str s)), (5, .d (.int .i64 j))] ∧ ∃ nx, S = ⟨nx, [], H⟩) (fun j => l.length - j) 0 (St.Le.refl _) (frLe_frOf (by (simp (maxSteps := 2000000) (disch := omega) [go_sem, -List.map_map, strs]))) ⟨by omega, by simp, rfl, _, rfl⟩ ?_
  rintro j fr S' ⟨hj, hall, rfl, nx, rfl⟩
  ((repeat refine WpM.seq ?_); have z_ex := (And.intro @strs.eq_1 True.intro); refine WpM.regPE [] [(0, _), (1, _), (5, _), (9, _)] (by (refine s_m [(5, _)] ?_; refine s_m [(0, _)] ?_; refine s_q [(7, _)] ?_; refine s_q [(6, _), (8, _)] ?_; exact wpS_nil ⟨rfl, rfl⟩)) z_su ?_; clear z_ex)
  by_cases hlt : j < l.length
  · ((repeat refine WpM.seq ?_); refine WpM.condT (by (simp (maxSteps := 2000000) (disch := omega) [go_sem, -List.map_map, hlt])) ?_)
    refine WpM.skip ?_
    ((repeat refine WpM.seq ?_); refine WpM.block ?_)
    ((repeat refine WpM.seq ?_); have z_ex := (And.intro @strs.eq_1 (And.intro @hlt True.intro)); refine WpM.regPE [] [(0, _), (1, _), (5, _), (17, _)] (by (refine s_m [(0, _)] ?_; refine s_m [(5, _)] ?_; refine s_q [(12, _), (13, _)] ?_; refine s_l [(14, _)] ?_; refine s_m [(1, _)] ?_; refine s_q [(15, _), (16, _)] ?_; exact wpS_nil ⟨rfl, rfl⟩)) z_su ?_; clear z_ex)
    by_cases he : l[j] = s
    · ((repeat refine WpM.seq ?_); refine WpM.condT (by (simp (maxSteps := 2000000) (disch := omega) [go_sem, -List.map_map, he])) ?_)
      ((repeat refine WpM.seq ?_); have z_ex := True.intro; refine WpM.regPE [] [(4, _)] (by (refine s_m [(5, _)] ?_; refine s_m [(18, _)] ?_; exact wpS_nil ⟨rfl, rfl⟩)) z_su ?_; clear z_ex)
      have hf : findI l s = j := by rw [findI, findN_hit l s j hlt hall he]
      (refine WpM.ret ?_; refine ⟨.inr rfl, Upd.done ?_⟩; (simp (maxSteps := 2000000) (disch := omega) [go_sem, -List.map_map, resV, resVs, resV1, hf]))
    · ((repeat refine WpM.seq ?_); refine WpM.condF (by (simp (maxSteps := 2000000) (disch := omega) [go_sem, -List.map_map, he])) ?_)
      refine WpM.skip ?_
      ((repeat refine WpM.seq ?_); have z_ex := (And.intro @wrap_id True.intro); refine WpM.regPE [] [(0, _), (1, _), (5, _)] (by (refine s_m [(5, _)] ?_; refine s_q [(10, _)] ?_; refine s_m [(11, _)] ?_; exact wpS_nil ⟨rfl, rfl⟩)) z_su ?_; clear z_ex)
      have hall' : ∀ i (h : i < l.length), i < j + 1 → l[i] ≠ s := fun i h hi => by
        rcases Nat.lt_or_ge i j with h' | h'
        · exact hall i h h'
        · obtain rfl : i = j := by omega
          exact he
      exact round_end (x' := j + 1) (St.Le.refl _) (frLe_frOf (by (simp (maxSteps := 2000000) (disch := omega) [go_sem, -List.map_map, strs, wrap_id]))) ⟨by omega, hall', rfl, _, rfl⟩ (by omega)
  · ((repeat refine WpM.seq ?_); refine WpM.condF (by (simp (maxSteps := 2000000) (disch := omega) [go_sem, -List.map_map, hlt])) ?_)
    (refine WpM.exit ?_; (repeat (with_reducible (first | refine thenM_exit ?_ | refine blockM_eq ?_ | refine blockM_ne (by decide) ?_))))
    obtain rfl : j = l.length := by omega
    have hf : findI l s = -1 := by rw [findI, findN_no l s fun h => by obtain ⟨i, hi, e⟩ := List.getElem_of_mem h; exact hall i hi hi e]
    ((repeat refine WpM.seq ?_); have z_ex := True.intro; refine WpM.regPE [] [(4, _)] (by (refine s_m [] ?_; exact wpS_nil ⟨rfl, rfl⟩)) z_su ?_; clear z_ex)
    (refine WpM.ret ?_; refine ⟨.inr rfl, Upd.done ?_⟩; (simp (maxSteps := 2000000) (disch := omega) [go_sem, -List.map_map, resV, resVs, resV1, hf]))
set_option maxHeartbeats 8000000 in
theorem sameInts39 (a b : List Int) (ha : a.length ≤ 140737488351232) : PureC Try.prog 39 [.d (ints a), .d (ints b)] (.d (.bool (decide (a = b)))) := by
  refine PureC.of (n := 26) Try.func39 rfl rfl (by simp) (by simp only [argL, Nat.reduceAdd] <;> rfl) rfl ?_
  intro n0 H hH
  ((repeat refine WpM.seq ?_); have z_ex := True.intro; refine WpM.regPE [] [(0, _), (1, _)] (by (refine s_m [] ?_; exact wpS_nil ⟨rfl, rfl⟩)) z_su ?_; clear z_ex)
  ((repeat refine WpM.seq ?_); have z_ex := (And.intro @ints.eq_1 True.intro); refine WpM.regPE [] [(0, _), (1, _), (10, _)] (by (refine s_m [(0, _)] ?_; refine s_q [(6, _)] ?_; refine s_m [(1, _)] ?_; refine s_q [(8, _)] ?_; refine s_q [(7, _), (9, _)] ?_; exact wpS_nil ⟨rfl, rfl⟩)) z_su ?_; clear z_ex)
  by_cases hl : a.length = b.length
  · ((repeat refine WpM.seq ?_); refine WpM.condF (by (simp (maxSteps := 2000000) (disch := omega) [go_sem, -List.map_map, hl])) ?_)
    refine WpM.skip ?_
    ((repeat refine WpM.seq ?_); have z_ex := True.intro; refine WpM.regPE [] [(0, _), (1, _), (5, _)] (by (refine s_m [] ?_; exact wpS_nil ⟨rfl, rfl⟩)) z_su ?_; clear z_ex)
    ((repeat refine WpM.seq ?_); refine WpM.block ?_)
    refine WpM.loop (fun (j : Nat) fr S => j ≤ a.length ∧ (∀ i (h : i < a.length), i < j → a[i] = b[i]'(by omega)) ∧ fr = frOf [(0, .d (ints a)), (1, .d (ints b)), (5, .d (.int .i64 j))] ∧ ∃ nx, S = ⟨nx, [], H⟩) (fun j => a.length - j) 0 (St.Le.refl _) (frLe_frOf (by (simp (maxSteps := 2000000) (disch := omega) [go_sem, -List.map_map, ints]))) ⟨by omega, by simp, rfl, _, rfl⟩ ?_
    rintro j fr S' ⟨hj, hall, rfl, nx, rfl⟩
    ((repeat refine WpM.seq ?_); have z_ex := (And.intro @ints.eq_1 True.intro); refine WpM.regPE [] [(0, _), (1, _), (5, _), (14, _)] (by (refine s_m [(5, _)] ?_; refine s_m [(0, _)] ?_; refine s_q [(12, _)] ?_; refine s_q [(11, _), (13, _)] ?_; exact wpS_nil ⟨rfl, rfl⟩)) z_su ?_; clear z_ex)
    by_cases hlt : j < a.length
    · ((repeat refine WpM.seq ?_); refine WpM.condT (by (simp (maxSteps := 2000000) (disch := omega) [go_sem, -List.map_map, hlt])) ?_)
      refine WpM.skip ?_
      ((repeat refine WpM.seq ?_); refine WpM.block ?_)
      have hjb : j < b.length := by omega
      ((repeat refine WpM.seq ?_); have z_ex := (And.intro @ints.eq_1 (And.intro @hlt (And.intro @hjb True.intro))); refine WpM.drwPE [] [(0, _), (1, _), (5, _), (25, _)] mixed (by kernel_rfl) (by kernel_rfl) [] (by kernel_rfl) (by (refine d_m [(0, _)] ?_; refine d_m [(5, _)] ?_; refine d_q [(17, _), (18, _)] ?_; refine d_l [(19, _)] ?_; refine d_m [(1, _)] ?_; refine d_m [(5, _)] ?_; refine d_q [(21, _), (22, _)] ?_; refine d_l [(23, _)] ?_; refine d_q [(20, _), (24, _)] ?_; exact d_end z_mt z_sn)) z_su ?_; clear z_ex)
      by_cases he : a[j] = b[j]
      · ((repeat refine WpM.seq ?_); refine WpM.condF (by (simp (maxSteps := 2000000) (disch := omega) [go_sem, -List.map_map, he])) ?_)
        refine WpM.skip ?_
        ((repeat refine WpM.seq ?_); have z_ex := (And.intro @wrap_id True.intro); refine WpM.regPE [] [(0, _), (1, _), (5, _)] (by (refine s_m [(5, _)] ?_; refine s_q [(15, _)] ?_; refine s_m [(16, _)] ?_; exact wpS_nil ⟨rfl, rfl⟩)) z_su ?_; clear z_ex)
        have hall' : ∀ i (h : i < a.length), i < j + 1 → a[i] = b[i]'(by omega) := fun i h hi => by
          rcases Nat.lt_or_ge i j with h' | h'
          · exact hall i h h'
          · obtain rfl : i = j := by omega
            exact he
        exact round_end (x' := j + 1) (St.Le.refl _) (frLe_frOf (by (simp (maxSteps := 2000000) (disch := omega) [go_sem, -List.map_map, ints, wrap_id]))) ⟨by omega, hall', rfl, _, rfl⟩ (by omega)
      · ((repeat refine WpM.seq ?_); refine WpM.condT (by (simp (maxSteps := 2000000) (disch := omega) [go_sem, -List.map_map, he])) ?_)
        have hne : ¬ a = b := by rintro rfl; exact he rfl
        ((repeat refine WpM.seq ?_); have z_ex := True.intro; refine WpM.regPE [] [(4, _)] (by (refine s_m [] ?_; exact wpS_nil ⟨rfl, rfl⟩)) z_su ?_; clear z_ex)
        (refine WpM.ret ?_; refine ⟨.inr rfl, Upd.done ?_⟩; (simp (maxSteps := 2000000) (disch := omega) [go_sem, -List.map_map, resV, resVs, resV1, hne]))
    · ((repeat refine WpM.seq ?_); refine WpM.condF (by (simp (maxSteps := 2000000) (disch := omega) [go_sem, -List.map_map, hlt])) ?_)
      (refine WpM.exit ?_; (repeat (with_reducible (first | refine thenM_exit ?_ | refine blockM_eq ?_ | refine blockM_ne (by decide) ?_))))
      obtain rfl : j = a.length := by omega
      have heq : a = b := List.ext_getElem hl fun i h _ => hall i h h
      ((repeat refine WpM.seq ?_); have z_ex := True.intro; refine WpM.regPE [] [(4, _)] (by (refine s_m [] ?_; exact wpS_nil ⟨rfl, rfl⟩)) z_su ?_; clear z_ex)
      (refine WpM.ret ?_; refine ⟨.inr rfl, Upd.done ?_⟩; (simp (maxSteps := 2000000) (disch := omega) [go_sem, -List.map_map, resV, resVs, resV1, heq]))
  · ((repeat refine WpM.seq ?_); refine WpM.condT (by (simp (maxSteps := 2000000) (disch := omega) [go_sem, -List.map_map, ints, hl])) ?_)
    have hne : ¬ a = b := by rintro rfl; exact hl rfl
    ((repeat refine WpM.seq ?_); have z_ex := True.intro; refine WpM.regPE [] [(4, _)] (by (refine s_m [] ?_; exact wpS_nil ⟨rfl, rfl⟩)) z_su ?_; clear z_ex)
    (refine WpM.ret ?_; refine ⟨.inr rfl, Upd.done ?_⟩; (simp (maxSteps := 2000000) (disch := omega) [go_sem, -List.map_map, resV, resVs, resV1, hne]))
set_option maxHeartbeats 8000000 in
theorem sameVals25 (a b : List Int) (ha : a.length ≤ 140737488351232) : PureC Try.prog 25 [.d (ints a), .d (ints b)] (.d (.bool (decide (a = b)))) := by
  refine PureC.of (n := 26) Try.func25 rfl rfl (by simp) (by simp only [argL, Nat.reduceAdd] <;> rfl) rfl ?_
  intro n0 H hH
  ((repeat refine WpM.seq ?_); have z_ex := True.intro; refine WpM.regPE [] [(0, _), (1, _)] (by (refine s_m [] ?_; exact wpS_nil ⟨rfl, rfl⟩)) z_su ?_; clear z_ex)
  ((repeat refine WpM.seq ?_); have z_ex := (And.intro @ints.eq_1 True.intro); refine WpM.regPE [] [(0, _), (1, _), (10, _)] (by (refine s_m [(0, _)] ?_; refine s_q [(6, _)] ?_; refine s_m [(1, _)] ?_; refine s_q [(8, _)] ?_; refine s_q [(7, _), (9, _)] ?_; exact wpS_nil ⟨rfl, rfl⟩)) z_su ?_; clear z_ex)
  by_cases hl : a.length = b.length
  · ((repeat refine WpM.seq ?_); refine WpM.condF (by (simp (maxSteps := 2000000) (disch := omega) [go_sem, -List.map_map, hl])) ?_)
    refine WpM.skip ?_
    ((repeat refine WpM.seq ?_); have z_ex := True.intro; refine WpM.regPE [] [(0, _), (1, _), (5, _)] (by (refine s_m [] ?_; exact wpS_nil ⟨rfl, rfl⟩)) z_su ?_; clear z_ex)
    ((repeat refine WpM.seq ?_); refine WpM.block ?_)
    refine WpM.loop (fun (j : Nat) fr S => j ≤ a.length ∧ (∀ i (h : i < a.length), i < j → a[i] = b[i]'(by omega)) ∧ fr = frOf [(0, .d (ints a)), (1, .d (ints b)), (5, .d (.int .i64 j))] ∧ ∃ nx, S = ⟨nx, [], H⟩) (fun j => a.length - j) 0 (St.Le.refl _) (frLe_frOf (by (simp (maxSteps := 2000000) (disch := omega) [go_sem, -List.map_map, ints]))) ⟨by omega, by simp, rfl, _, rfl⟩ ?_
    rintro j fr S' ⟨hj, hall, rfl, nx, rfl⟩
    ((repeat refine WpM.seq ?_); have z_ex := (And.intro @ints.eq_1 True.intro); refine WpM.regPE [] [(0, _), (1, _), (5, _), (14, _)] (by (refine s_m [(5, _)] ?_; refine s_m [(0, _)] ?_; refine s_q [(12, _)] ?_; refine s_q [(11, _), (13, _)] ?_; exact wpS_nil ⟨rfl, rfl⟩)) z_su ?_; clear z_ex)
    by_cases hlt : j < a.length
    · ((repeat refine WpM.seq ?_); refine WpM.condT (by (simp (maxSteps := 2000000) (disch := omega) [go_sem, -List.map_map, hlt])) ?_)
      refine WpM.skip ?_
      ((repeat refine WpM.seq ?_); refine WpM.block ?_)
      have hjb : j < b.length := by omega
      ((repeat refine WpM.seq ?_); have z_ex := (And.intro @ints.eq_1 (And.intro @hlt (And.intro @hjb True.intro))); refine WpM.drwPE [] [(0, _), (1, _), (5, _), (25, _)] mixed (by kernel_rfl) (by kernel_rfl) [] (by kernel_rfl) (by (refine d_m [(0, _)] ?_; refine d_m [(5, _)] ?_; refine d_q [(17, _), (18, _)] ?_; refine d_l [(19, _)] ?_; refine d_m [(1, _)] ?_; refine d_m [(5, _)] ?_; refine d_q [(21, _), (22, _)] ?_; refine d_l [(23, _)] ?_; refine d_q [(20, _), (24, _)] ?_; exact d_end z_mt z_sn)) z_su ?_; clear z_ex)
      by_cases he : a[j] = b[j]
      · ((repeat refine WpM.seq ?_); refine WpM.condF (by (simp (maxSteps := 2000000) (disch := omega) [go_sem, -List.map_map, he])) ?_)
        refine WpM.skip ?_
        ((repeat refine WpM.seq ?_); have z_ex := (And.intro @wrap_id True.intro); refine WpM.regPE [] [(0, _), (1, _), (5, _)] (by (refine s_m [(5, _)] ?_; refine s_q [(15, _)] ?_; refine s_m [(16, _)] ?_; exact wpS_nil ⟨rfl, rfl⟩)) z_su ?_; clear z_ex)
        have hall' : ∀ i (h : i < a.length), i < j + 1 → a[i] = b[i]'(by omega) := fun i h hi => by
          rcases Nat.lt_or_ge i j with h' | h'
          · exact hall i h h'
          · obtain rfl : i = j := by omega
            exact he
        exact round_end (x' := j + 1) (St.Le.refl _) (frLe_frOf (by (simp (maxSteps := 2000000) (disch := omega) [go_sem, -List.map_map, ints, wrap_id]))) ⟨by omega, hall', rfl, _, rfl⟩ (by omega)
      · ((repeat refine WpM.seq ?_); refine WpM.condT (by (simp (maxSteps := 2000000) (disch := omega) [go_sem, -List.map_map, he])) ?_)
        have hne : ¬ a = b := by rintro rfl; exact he rfl
        ((repeat refine WpM.seq ?_); have z_ex := True.intro; refine WpM.regPE [] [(4, _)] (by (refine s_m [] ?_; exact wpS_nil ⟨rfl, rfl⟩)) z_su ?_; clear z_ex)
        (refine WpM.ret ?_; refine ⟨.inr rfl, Upd.done ?_⟩; (simp (maxSteps := 2000000) (disch := omega) [go_sem, -List.map_map, resV, resVs, resV1, hne]))
    · ((repeat refine WpM.seq ?_); refine WpM.condF (by (simp (maxSteps := 2000000) (disch := omega) [go_sem, -List.map_map, hlt])) ?_)
      (refine WpM.exit ?_; (repeat (with_reducible (first | refine thenM_exit ?_ | refine blockM_eq ?_ | refine blockM_ne (by decide) ?_))))
      obtain rfl : j = a.length := by omega
      have heq : a = b := List.ext_getElem hl fun i h _ => hall i h h
      ((repeat refine WpM.seq ?_); have z_ex := True.intro; refine WpM.regPE [] [(4, _)] (by (refine s_m [] ?_; exact wpS_nil ⟨rfl, rfl⟩)) z_su ?_; clear z_ex)
      (refine WpM.ret ?_; refine ⟨.inr rfl, Upd.done ?_⟩; (simp (maxSteps := 2000000) (disch := omega) [go_sem, -List.map_map, resV, resVs, resV1, heq]))
  · ((repeat refine WpM.seq ?_); refine WpM.condT (by (simp (maxSteps := 2000000) (disch := omega) [go_sem, -List.map_map, ints, hl])) ?_)
    have hne : ¬ a = b := by rintro rfl; exact hl rfl
    ((repeat refine WpM.seq ?_); have z_ex := True.intro; refine WpM.regPE [] [(4, _)] (by (refine s_m [] ?_; exact wpS_nil ⟨rfl, rfl⟩)) z_su ?_; clear z_ex)
    (refine WpM.ret ?_; refine ⟨.inr rfl, Upd.done ?_⟩; (simp (maxSteps := 2000000) (disch := omega) [go_sem, -List.map_map, resV, resVs, resV1, hne]))
theorem clone49 (c : List Int) (hlen : c.length ≤ 1000000000) : PureC Try.prog 49 [.d (ints c)] (.d (ints c)) := by
  refine PureC.of (n := 8) Try.func49 rfl rfl (by simp) (by simp only [argL, Nat.reduceAdd] <;> rfl) rfl ?_
  intro n0 H hH
  cases c with
  | nil =>
    ((repeat refine WpM.seq ?_); have z_ex := True.intro; refine WpM.regPE [] [(0, _)] (by (refine s_m [] ?_; exact wpS_nil ⟨rfl, rfl⟩)) z_su ?_; clear z_ex)
    ((repeat refine WpM.seq ?_); have z_ex := True.intro; refine WpM.regP [] ?_; intro K hK; refine s_m [(0, _)] ?_; refine wpS_cmp rfl rfl rfl rfl z_lk un44 ?_; intro z_b; refine s_put z_fp ?_; refine s_endE [(0, _), (4, _)] hK z_su ?_; clear hK K; clear z_ex)
    cases z_b with
    | true =>
      ((repeat refine WpM.seq ?_); refine WpM.condT (by (simp (maxSteps := 2000000) (disch := omega) [go_sem, -List.map_map])) ?_)
      ((repeat refine WpM.seq ?_); have z_ex := True.intro; refine WpM.regPE [] [(2, _)] (by (refine s_m [] ?_; exact wpS_nil ⟨rfl, rfl⟩)) z_su ?_; clear z_ex)
      refine WpM.ret ?_
      refine ⟨.inr rfl, Upd.pureNil 2 (.inl (by (simp (maxSteps := 2000000) (disch := omega) [go_sem, -List.map_map]))) (Upd.done ?_)⟩
      (simp (maxSteps := 2000000) (disch := omega) [go_sem, -List.map_map, resV, resVs, resV1, ints, fset])
    | false =>
      ((repeat refine WpM.seq ?_); refine WpM.condF (by (simp (maxSteps := 2000000) (disch := omega) [go_sem, -List.map_map])) ?_)
      refine WpM.skip ?_
      ((repeat refine WpM.seq ?_); have z_ex := (And.intro @ints.eq_1 True.intro); refine WpM.regPE [7] [(2, _)] (by (refine s_q [] ?_; refine s_m [(0, _)] ?_; refine s_q [(5, _), (6, _)] ?_; refine s_m [(7, _)] ?_; exact wpS_nil ⟨rfl, rfl⟩)) z_su ?_; clear z_ex)
      (refine WpM.ret ?_; refine ⟨.inr rfl, Upd.done ?_⟩; (simp (maxSteps := 2000000) (disch := omega) [go_sem, -List.map_map, resV, resVs, resV1, ints]))
  | cons a r =>
    ((repeat refine WpM.seq ?_); have z_ex := True.intro; refine WpM.regPE [] [(0, _)] (by (refine s_m [] ?_; exact wpS_nil ⟨rfl, rfl⟩)) z_su ?_; clear z_ex)
    ((repeat refine WpM.seq ?_); have z_ex := (And.intro @ints.eq_1 True.intro); refine WpM.regPE [] [(0, _), (4, _)] (by (refine s_m [(0, _)] ?_; refine s_q [(3, _)] ?_; exact wpS_nil ⟨rfl, rfl⟩)) z_su ?_; clear z_ex)
    ((repeat refine WpM.seq ?_); refine WpM.condF (by (simp (maxSteps := 2000000) (disch := omega) [go_sem, -List.map_map])) ?_)
    refine WpM.skip ?_
    simp only [List.length_cons] at hlen
    ((repeat refine WpM.seq ?_); have z_ex := (And.intro @ints.eq_1 True.intro); refine WpM.regPE [7] [(2, _)] (by (refine s_q [] ?_; refine s_m [(0, _)] ?_; refine s_q [(5, _), (6, _)] ?_; refine s_m [(7, _)] ?_; exact wpS_nil ⟨rfl, rfl⟩)) z_su ?_; clear z_ex)
    (refine WpM.ret ?_; refine ⟨.inr rfl, Upd.done ?_⟩; (simp (maxSteps := 2000000) (disch := omega) [go_sem, -List.map_map, resV, resVs, resV1, ints]))
set_option maxHeartbeats 8000000 in
theorem index64 (l : List ByteArray) (s : ByteArray) (hl : l.length ≤ 140737488351232) : PureC Try.prog 64 [.d (strs l), .d (.str s)] (.d (.int .i64 (findI l s))) := by
  refine PureC.of (n := 19) Try.func64 rfl rfl (by simp) (by simp only [argL, Nat.reduceAdd] <;> rfl) rfl ?_
  intro n0 H hH
  ((repeat refine WpM.seq ?_); have z_ex := True.intro; refine WpM.regPE [] [(0, _), (1, _)] (by (refine s_m [] ?_; exact wpS_nil ⟨rfl, rfl⟩)) z_su ?_; clear z_ex)
  ((repeat refine WpM.seq ?_); have z_ex := (And.intro @strs.eq_1 True.intro); refine WpM.regPE [] [(0, _), (1, _), (7, _), (8, _)] (by (refine s_m [(0, _)] ?_; refine s_q [(6, _)] ?_; refine s_m [] ?_; exact wpS_nil ⟨rfl, rfl⟩)) z_su ?_; clear z_ex)
  ((repeat refine WpM.seq ?_); refine WpM.block ?_)
  refine WpM.loop (fun (j : Nat) fr S => j ≤ l.length ∧ (∀ i (h : i < l.length), i < j → l[i] ≠ s) ∧ fr = frOf [(0, .d (strs l)), (1, .d (.str s)), (7, .d (.int .i64 l.length)), (8, .d (.int .i64 j))] ∧ ∃ nx, S = ⟨nx, [], H⟩) (fun j => l.length - j) 0 (St.Le.refl _) (frLe_frOf (by (simp (maxSteps := 2000000) (disch := omega) [go_sem, -List.map_map, strs]))) ⟨by omega, by simp, rfl, _, rfl⟩ ?_
  rintro j fr S' ⟨hj, hall, rfl, nx, rfl⟩
  ((repeat refine WpM.seq ?_); have z_ex := True.intro; refine WpM.regPE [] [(0, _), (1, _), (7, _), (8, _), (9, _)] (by (refine s_q [(7, _), (8, _)] ?_; exact wpS_nil ⟨rfl, rfl⟩)) z_su ?_; clear z_ex)
  by_cases hlt : j < l.length
  · ((repeat refine WpM.seq ?_); refine WpM.condT (by (simp (maxSteps := 2000000) (disch := omega) [go_sem, -List.map_map, hlt])) ?_)
    refine WpM.skip ?_
    ((repeat refine WpM.seq ?_); refine WpM.block ?_)
    ((repeat refine WpM.seq ?_); have z_ex := True.intro; refine WpM.regPE [] [(0, _), (1, _), (5, _), (7, _), (8, _)] (by (refine s_m [(8, _)] ?_; refine s_m [(10, _)] ?_; exact wpS_nil ⟨rfl, rfl⟩)) z_su ?_; clear z_ex)
    ((repeat refine WpM.seq ?_); have z_ex := (And.intro @strs.eq_1 (And.intro @hlt True.intro)); refine WpM.regPE [] [(0, _), (1, _), (5, _), (7, _), (8, _), (16, _)] (by (refine s_m [(1, _)] ?_; refine s_m [(0, _)] ?_; refine s_m [(5, _)] ?_; refine s_q [(12, _), (13, _)] ?_; refine s_l [(14, _)] ?_; refine s_q [(11, _), (15, _)] ?_; exact wpS_nil ⟨rfl, rfl⟩)) z_su ?_; clear z_ex)
    by_cases he : l[j] = s
    · ((repeat refine WpM.seq ?_); refine WpM.condT (by (simp (maxSteps := 2000000) (disch := omega) [go_sem, -List.map_map, he])) ?_)
      ((repeat refine WpM.seq ?_); have z_ex := True.intro; refine WpM.regPE [] [(4, _)] (by (refine s_m [(5, _)] ?_; refine s_m [(17, _)] ?_; exact wpS_nil ⟨rfl, rfl⟩)) z_su ?_; clear z_ex)
      have hf : findI l s = j := by rw [findI, findN_hit l s j hlt hall he]
      (refine WpM.ret ?_; refine ⟨.inr rfl, Upd.done ?_⟩; (simp (maxSteps := 2000000) (disch := omega) [go_sem, -List.map_map, resV, resVs, resV1, hf]))
    · have he' : ¬ s = l[j] := fun h => he h.symm
      ((repeat refine WpM.seq ?_); refine WpM.condF (by (simp (maxSteps := 2000000) (disch := omega) [go_sem, -List.map_map, he'])) ?_)
      refine WpM.skip ?_
      ((repeat refine WpM.seq ?_); have z_ex := (And.intro @wrap_id True.intro); refine WpM.regPE [] [(0, _), (1, _), (7, _), (8, _)] (by (refine s_q [(8, _)] ?_; refine s_m [(18, _)] ?_; exact wpS_nil ⟨rfl, rfl⟩)) z_su ?_; clear z_ex)
      have hall' : ∀ i (h : i < l.length), i < j + 1 → l[i] ≠ s := fun i h hi => by
        rcases Nat.lt_or_ge i j with h' | h'
        · exact hall i h h'
        · obtain rfl : i = j := by omega
          exact he
      exact round_end (x' := j + 1) (St.Le.refl _) (frLe_frOf (by (simp (maxSteps := 2000000) (disch := omega) [go_sem, -List.map_map, strs, wrap_id]))) ⟨by omega, hall', rfl, _, rfl⟩ (by omega)
  · ((repeat refine WpM.seq ?_); refine WpM.condF (by (simp (maxSteps := 2000000) (disch := omega) [go_sem, -List.map_map, hlt])) ?_)
    (refine WpM.exit ?_; (repeat (with_reducible (first | refine thenM_exit ?_ | refine blockM_eq ?_ | refine blockM_ne (by decide) ?_))))
    obtain rfl : j = l.length := by omega
    have hf : findI l s = -1 := by rw [findI, findN_no l s fun h => by obtain ⟨i, hi, e⟩ := List.getElem_of_mem h; exact hall i hi hi e]
    ((repeat refine WpM.seq ?_); have z_ex := True.intro; refine WpM.regPE [] [(4, _)] (by (refine s_m [] ?_; exact wpS_nil ⟨rfl, rfl⟩)) z_su ?_; clear z_ex)
    (refine WpM.ret ?_; refine ⟨.inr rfl, Upd.done ?_⟩; (simp (maxSteps := 2000000) (disch := omega) [go_sem, -List.map_map, resV, resVs, resV1, hf]))
theorem contains52 (l : List ByteArray) (s : ByteArray) (hl : l.length ≤ 140737488351232) : PureC Try.prog 52 [.d (strs l), .d (.str s)] (.d (.bool (decide (0 ≤ findI l s)))) := by
  refine PureC.of (n := 9) Try.func52 rfl rfl (by simp) (by simp only [argL, Nat.reduceAdd] <;> rfl) rfl ?_
  intro n0 H hH
  ((repeat refine WpM.seq ?_); have z_ex := True.intro; refine WpM.regPE [] [(0, _), (1, _)] (by (refine s_m [] ?_; exact wpS_nil ⟨rfl, rfl⟩)) z_su ?_; clear z_ex)
  ((repeat refine WpM.seq ?_); have z_ex := True.intro; refine WpM.regPE [] [(4, _)] (by (refine s_m [(0, _)] ?_; refine s_m [(1, _)] ?_; refine s_pure (callOf_eq rfl rfl rfl (mlk_tmp z_lk (mlk_tmp z_lk mlk_nil))) ((index64 l s hl)) rfl rfl z_ip z_fp ?_; refine s_q [(7, _)] ?_; refine s_m [(8, _)] ?_; exact wpS_nil ⟨rfl, rfl⟩)) z_su ?_; clear z_ex)
  (refine WpM.ret ?_; refine ⟨.inr rfl, Upd.done ?_⟩; (simp (maxSteps := 2000000) (disch := omega) [go_sem, -List.map_map, resV, resVs, resV1,]))
end Go.Proofs.Ytjjmedgibcffhaa
