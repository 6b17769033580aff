/- When a history is sound: the pure model; names. -/
import Derived.Test.YtjjmedgibcffhaaROp2
import Derived.Test.YtjjmedgibcffhaaRIx9
import Derived.Test.YtjjmedgibcffhaaRIx11
namespace Go.Proofs.Ytjjmedgibcffhaa
open Go.RowKit M
set_option linter.unusedSimpArgs false
set_option linter.unusedVariables false
def nameB (l : List ByteArray) (i : Nat) : Bool := decide (1 ≤ (l.getD i ByteArray.empty).size) && decide ((l.getD i ByteArray.empty).size ≤ 32) && (findN (l.take i) (l.getD i ByteArray.empty)).isNone
def namesB (l : List ByteArray) : Bool := (List.range l.length).all (nameB l) && decide (l.length ≤ 32)
def enters (b : Bk) : List CallD → Int → Option Bk
  | [], _ => some b
  | c :: r, who => match enterB b c who with
    | .ok b' => enters b' r who
    | .error _ => none
noncomputable def stepT (h : HistD) (i : Nat) (b : Bk) : Option Bk := match h.txns[i]? with
  | none => none
  | some t => if evOkB h.keys t && placedB (h.txns.take i) t then enters b (evOf h.keys t).calls i else none
noncomputable def checkSt (h : HistD) : Nat → Option Bk
  | 0 => some .empty
  | i + 1 => (checkSt h i).bind (stepT h i)
noncomputable def checkB (h : HistD) : Bool := namesB h.keys && decide (h.txns.length ≤ 32) && (checkSt h h.txns.length).isSome
theorem names_bad {l : List ByteArray} {i : Nat} (h : i < l.length) (hb : nameB l i = false) : namesB l = false := by
  rw [namesB, Bool.and_eq_false_iff]
  left
  rw [List.all_eq_false]
  exact ⟨i, by simpa using h, by simp [hb]⟩
theorem names_good {l : List ByteArray} (h : ∀ i, i < l.length → nameB l i = true) : namesB l = decide (l.length ≤ 32) := by
  rw [namesB, List.all_eq_true.2 (fun i hi => h i (by simpa using hi)), Bool.true_and]
theorem nameB_get {l : List ByteArray} {i : Nat} (h : i < l.length) : nameB l i = (decide (1 ≤ l[i].size) && decide (l[i].size ≤ 32) && (findN (l.take i) l[i]).isNone) := by
  unfold nameB
  have : l.getD i ByteArray.empty = l[i] := by simp [h]
  rw [this]
theorem findI_none {l : List ByteArray} {s : ByteArray} : (findN l s).isNone = decide (findI l s < 0) := by
  unfold findI
  cases findN l s with
  | none => rfl
  | some j =>
    have : ¬ ((j : Int) < 0) := by omega
    simp [this]
theorem checkSt_bad {h : HistD} {i : Nat} (hb : checkSt h i = none) : ∀ {m : Nat}, i ≤ m → checkSt h m = none := by
  intro m hm
  induction m with
  | zero => obtain rfl : i = 0 := by omega
            exact hb
  | succ m ih =>
    rcases Nat.lt_or_ge m i with h1 | h1
    · obtain rfl : i = m + 1 := by omega
      exact hb
    · rw [checkSt, ih h1]; rfl
theorem checkB_bad {h : HistD} {i : Nat} {b : Bk} (hi : i < h.txns.length) (hst : checkSt h i = some b) (hs : stepT h i b = none) : checkB h = false := by
  have : checkSt h (i + 1) = none := by rw [checkSt, hst]; exact hs
  rw [checkB, checkSt_bad this hi]
  simp
theorem stepT_get {h : HistD} {i : Nat} {b : Bk} (hi : i < h.txns.length) : stepT h i b = if evOkB h.keys h.txns[i] && placedB (h.txns.take i) h.txns[i] then enters b (evOf h.keys h.txns[i]).calls i else none := by
  unfold stepT
  rw [List.getElem?_eq_getElem hi]
theorem enters_wf : ∀ (cs : List CallD) {b b' : Bk} {n : Nat} {who : Int}, b.Wf n → enters b cs who = some b' → b'.Wf (n + cs.length)
  | [], b, b', n, who, hw, h => by
    simp only [enters, Option.some.injEq] at h
    subst h
    exact hw
  | c :: r, b, b', n, who, hw, h => by
    simp only [enters] at h
    cases he : enterB b c who with
    | error e => rw [he] at h; cases h
    | ok b1 =>
      rw [he] at h
      have := enters_wf r (enterB_wf hw he) h
      rw [List.length_cons, show n + (r.length + 1) = n + 1 + r.length by omega]
      exact this
theorem enters_take : ∀ (cs : List CallD) (b : Bk) (who : Int) (k : Nat) (h : k < cs.length) (b1 : Bk), enters b (cs.take k) who = some b1 → enters b (cs.take (k + 1)) who = match enterB b1 cs[k] who with | .ok b2 => some b2 | .error _ => none
  | c :: r, b, who, 0, _, b1, h1 => by
    simp only [List.take_zero, enters, Option.some.injEq] at h1
    subst h1
    simp only [List.take_succ_cons, List.take_zero, enters, List.getElem_cons_zero]
  | c :: r, b, who, k + 1, h, b1, h1 => by
    simp only [List.take_succ_cons, enters, List.getElem_cons_succ] at h1 ⊢
    cases he : enterB b c who with
    | error e => rw [he] at h1; cases h1
    | ok b' =>
      rw [he] at h1
      exact enters_take r b' who k (by simpa using h) b1 h1
theorem enters_stop : ∀ (cs : List CallD) (b : Bk) (who : Int) (k : Nat), enters b (cs.take k) who = none → enters b cs who = none
  | [], b, who, k, h => by simpa using h
  | c :: r, b, who, 0, h => by simp [enters] at h
  | c :: r, b, who, k + 1, h => by
    simp only [List.take_succ_cons, enters] at h ⊢
    cases he : enterB b c who with
    | error e => rfl
    | ok b' =>
      rw [he] at h
      exact enters_stop r b' who k h
theorem eventOk_spec {e : EventD} (h : eventOk e = true) : 0 ≤ e.kind ∧ e.kind ≤ 3 ∧ e.calls.length ≤ 16 ∧ ∀ c ∈ e.calls, callOk c e.kind = true := by
  unfold eventOk at h
  simp only [Bool.and_eq_true, decide_eq_true_eq, List.all_eq_true] at h
  exact ⟨h.1.1.1, h.1.1.2, h.1.2, h.2⟩
theorem callOk_kind {c : CallD} {ev : Int} (h : callOk c ev = true) : 1 ≤ c.kind ∧ c.kind ≤ 8 := by
  unfold callOk at h
  by_cases h1 : c.kind < 1
  · rw [if_pos h1] at h; cases h
  · rw [if_neg h1] at h
    by_cases h2 : 8 < c.kind
    · rw [if_pos h2] at h; cases h
    · omega
theorem evOkB_long {keys : List ByteArray} {t : TxnD} (h : 16 < t.ops.length) : evOkB keys t = false := by
  rw [evOkB, Bool.and_eq_false_iff]
  by_cases ha : t.ops.all (okKey keys.length) = true
  · right
    cases he : eventOk (evOf keys t) with
    | false => rfl
    | true =>
      have h1 := (eventOk_spec he).2.2.1
      have h2 := (takeWhile_good (okKey keys.length) t.ops (fun i hi => List.all_eq_true.1 ha _ (List.getElem_mem _))).1
      simp only [evOf, h2, List.length_map] at h1
      omega
  · left
    simpa using ha
theorem evOkB_key {keys : List ByteArray} {t : TxnD} {k : Nat} (h : k < t.ops.length) (hb : okKey keys.length t.ops[k] = false) : evOkB keys t = false := by
  rw [evOkB, Bool.and_eq_false_iff]
  left
  rw [List.all_eq_false]
  exact ⟨t.ops[k], List.getElem_mem _, by simp [hb]⟩
theorem checkSt_wf {h : HistD} : ∀ {i : Nat} {b : Bk}, checkSt h i = some b → b.Wf (16 * i)
  | 0, b, hs => by
    simp only [checkSt, Option.some.injEq] at hs
    subst hs
    exact Bk.Wf.empty
  | i + 1, b, hs => by
    rw [checkSt] at hs
    cases hc : checkSt h i with
    | none => rw [hc] at hs; cases hs
    | some b0 =>
      rw [hc] at hs
      have hs : stepT h i b0 = some b := hs
      have hw := checkSt_wf hc
      unfold stepT at hs
      split at hs
      · cases hs
      · rename_i t ht
        split at hs
        · rename_i hcond
          simp only [Bool.and_eq_true] at hcond
          have hev : eventOk (evOf h.keys t) = true := by have := hcond.1; rw [evOkB, Bool.and_eq_true] at this; exact this.2
          have hl := (eventOk_spec hev).2.2.1
          have := enters_wf _ hw hs
          obtain ⟨a1, a2, a3, a4, a5, a6⟩ := this
          exact ⟨a1, a2, a3, a4, fun k => Nat.le_trans (a5 k) (by omega), a6⟩
        · cases hs
set_option maxHeartbeats 8000000 in
theorem names55 (l : List ByteArray) (hl : l.length ≤ 140737488351232) : PureC Try.prog 55 [.d (strs l)] (.d (.bool (namesB l))) := by
  refine PureC.of (n := 38) Try.func55 rfl rfl (by simp) (by simp only [argL, Nat.reduceAdd] <;> rfl) rfl ?_
  intro n0 H hH
  ((repeat refine WpM.seq ?_); have z_ex := True.intro; refine WpM.regPE [] [(0, _)] (by (refine s_m [] ?_; exact wpS_nil ⟨rfl, rfl⟩)) z_su ?_; clear z_ex)
  ((repeat refine WpM.seq ?_); have z_ex := True.intro; refine WpM.regPE [] [(0, _), (3, _)] (by (refine s_m [] ?_; exact wpS_nil ⟨rfl, rfl⟩)) z_su ?_; clear z_ex)
  ((repeat refine WpM.seq ?_); refine WpM.block ?_)
  refine WpM.loop (fun (j : Nat) fr S => j ≤ l.length ∧ (∀ i, i < j → nameB l i = true) ∧ fr = frOf [(0, .d (strs l)), (3, .d (.int .i64 j))] ∧ ∃ nx, S = ⟨nx, [], H⟩) (fun j => l.length - j) 0 (St.Le.refl _) (frLe_frOf (by (simp (maxSteps := 2000000) (disch := omega) [go_sem, -List.map_map]))) ⟨by omega, by simp, rfl, _, rfl⟩ ?_
  rintro j fr S' ⟨hj, hall, rfl, nx, rfl⟩
  ((repeat refine WpM.seq ?_); have z_ex := (And.intro @strs.eq_1 True.intro); refine WpM.regPE [] [(0, _), (3, _), (7, _)] (by (refine s_m [(3, _)] ?_; refine s_m [(0, _)] ?_; refine s_q [(5, _)] ?_; refine s_q [(4, _), (6, _)] ?_; exact wpS_nil ⟨rfl, rfl⟩)) z_su ?_; clear z_ex)
  by_cases hlt : j < l.length
  · ((repeat refine WpM.seq ?_); refine WpM.condT (by (simp (maxSteps := 2000000) (disch := omega) [go_sem, -List.map_map, hlt])) ?_)
    refine WpM.skip ?_
    ((repeat refine WpM.seq ?_); refine WpM.block ?_)
    have hnb := nameB_get hlt
    obtain ⟨s, hs⟩ : ∃ s, s = l[j] := ⟨_, rfl⟩
    have hget : (l.map D.str)[j]? = some (.str s) := by simp [hlt, hs]
    rw [← hs, findI_none] at hnb
    have hfind := find51 (l.take j) s (by simp; omega)
    obtain ⟨fi, hfi⟩ : ∃ fi, fi = findI (l.take j) s := ⟨_, rfl⟩
    have hst : strs (l.take j) = .sl ((l.map D.str).take j) := by rw [strs, List.map_take]
    rw [hst] at hfind
    rw [← hfi] at hfind hnb
    by_cases h1 : s.size < 1
    · have hr : namesB l = false := names_bad hlt (by rw [hnb]; simp; omega)
      rw [hr]
      have h1' : s.size = 0 := by omega
      ((repeat refine WpM.seq ?_); have z_ex := (And.intro @strs.eq_1 (And.intro @hget (And.intro @hlt (And.intro @h1' (And.intro @hj True.intro))))); refine WpM.drwPE [] [(0, _), (3, _), (34, _)] mixed (by kernel_rfl) (by kernel_rfl) [] (by kernel_rfl) (by (refine d_m [(0, _)] ?_; refine d_m [(3, _)] ?_; refine d_q [(10, _), (11, _)] ?_; refine d_l [(12, _)] ?_; refine d_q [(13, _)] ?_; refine d_q [(14, _)] ?_; refine d_m [(15, _)] ?_; refine d_wit ?_; intro z_g; (first | refine d_skip rfl z_g z_fp ?_ | (refine d_m [(0, _)] ?_ (hg := z_g))); clear z_g; refine d_wit ?_; intro z_g; (first | refine d_skip rfl z_g z_fp ?_ | (refine d_m [(3, _)] ?_ (hg := z_g))); clear z_g; refine d_wit ?_; intro z_g; (first | refine d_skip rfl z_g z_fp ?_ | (refine d_q [(17, _), (18, _)] ?_ (hg := z_g))); clear z_g; refine d_wit ?_; intro z_g; (first | refine d_skip rfl z_g z_fp ?_ | (refine d_l [(19, _)] ?_ (hg := z_g))); clear z_g; refine d_wit ?_; intro z_g; (first | refine d_skip rfl z_g z_fp ?_ | (refine d_q [(20, _)] ?_ (hg := z_g))); clear z_g; refine d_wit ?_; intro z_g; (first | refine d_skip rfl z_g z_fp ?_ | (refine d_q [(21, _)] ?_ (hg := z_g))); clear z_g; refine d_m [(16, _), (22, _)] ?_; refine d_m [(23, _)] ?_; refine d_wit ?_; intro z_g; (first | refine d_skip rfl z_g z_fp ?_ | (refine d_m [(0, _)] ?_ (hg := z_g))); clear z_g; refine d_wit ?_; intro z_g; (first | refine d_skip rfl z_g z_fp ?_ | (refine d_m [(3, _)] ?_ (hg := z_g))); clear z_g; refine d_wit ?_; intro z_g; (first | refine d_skip rfl z_g z_fp ?_ | (refine d_q [(25, _), (26, _)] ?_ (hg := z_g))); clear z_g; refine d_wit ?_; intro z_g; (first | refine d_skip rfl z_g z_fp ?_ | (refine d_m [(0, _)] ?_ (hg := z_g))); clear z_g; refine d_wit ?_; intro z_g; (first | refine d_skip rfl z_g z_fp ?_ | (refine d_m [(3, _)] ?_ (hg := z_g))); clear z_g; refine d_wit ?_; intro z_g; (first | refine d_skip rfl z_g z_fp ?_ | (refine d_q [(28, _), (29, _)] ?_ (hg := z_g))); clear z_g; refine d_wit ?_; intro z_g; (first | refine d_skip rfl z_g z_fp ?_ | (refine d_l [(30, _)] ?_ (hg := z_g))); clear z_g; refine d_wit ?_; intro z_g; (first | refine d_skip rfl z_g z_fp ?_ | (refine d_pure (callOf_eq rfl rfl rfl (mlk_tmp z_lk (mlk_tmp z_lk mlk_nil))) (hfind) rfl z_g z_ip rfl z_fp ?_)); clear z_g; refine d_wit ?_; intro z_g; (first | refine d_skip rfl z_g z_fp ?_ | (refine d_q [(32, _)] ?_ (hg := z_g))); clear z_g; refine d_m [(24, _), (33, _)] ?_; exact d_end z_mt z_sn)) z_su ?_; clear z_ex)
      ((repeat refine WpM.seq ?_); refine WpM.condT (by (simp (maxSteps := 2000000) (disch := omega) [go_sem, -List.map_map, h1'])) ?_)
      ((repeat refine WpM.seq ?_); have z_ex := True.intro; refine WpM.regPE [] [(2, _)] (by (refine s_m [] ?_; exact wpS_nil ⟨rfl, rfl⟩)) z_su ?_; clear z_ex)
      (refine WpM.ret ?_; refine ⟨.inr rfl, Upd.done ?_⟩; (simp (maxSteps := 2000000) (disch := omega) [go_sem, -List.map_map, resV, resVs, resV1,]))
    · have h1' : ¬ s.size = 0 := by omega
      have h1'' : ¬ ((s.size : Int) < 1) := by omega
      by_cases h2 : 32 < s.size
      · have hr : namesB l = false := names_bad hlt (by rw [hnb]; simp; omega)
        rw [hr]
        have h2' : (32 : Int) < s.size := by omega
        ((repeat refine WpM.seq ?_); have z_ex := (And.intro @strs.eq_1 (And.intro @hget (And.intro @hlt (And.intro @h1' (And.intro @h1'' (And.intro @h2 (And.intro @h2' (And.intro @hj True.intro)))))))); refine WpM.drwPE [] [(0, _), (3, _), (34, _)] mixed (by kernel_rfl) (by kernel_rfl) [] (by kernel_rfl) (by (refine d_m [(0, _)] ?_; refine d_m [(3, _)] ?_; refine d_q [(10, _), (11, _)] ?_; refine d_l [(12, _)] ?_; refine d_q [(13, _)] ?_; refine d_q [(14, _)] ?_; refine d_m [(15, _)] ?_; refine d_wit ?_; intro z_g; (first | refine d_skip rfl z_g z_fp ?_ | (refine d_m [(0, _)] ?_ (hg := z_g))); clear z_g; refine d_wit ?_; intro z_g; (first | refine d_skip rfl z_g z_fp ?_ | (refine d_m [(3, _)] ?_ (hg := z_g))); clear z_g; refine d_wit ?_; intro z_g; (first | refine d_skip rfl z_g z_fp ?_ | (refine d_q [(17, _), (18, _)] ?_ (hg := z_g))); clear z_g; refine d_wit ?_; intro z_g; (first | refine d_skip rfl z_g z_fp ?_ | (refine d_l [(19, _)] ?_ (hg := z_g))); clear z_g; refine d_wit ?_; intro z_g; (first | refine d_skip rfl z_g z_fp ?_ | (refine d_q [(20, _)] ?_ (hg := z_g))); clear z_g; refine d_wit ?_; intro z_g; (first | refine d_skip rfl z_g z_fp ?_ | (refine d_q [(21, _)] ?_ (hg := z_g))); clear z_g; refine d_m [(16, _), (22, _)] ?_; refine d_m [(23, _)] ?_; refine d_wit ?_; intro z_g; (first | refine d_skip rfl z_g z_fp ?_ | (refine d_m [(0, _)] ?_ (hg := z_g))); clear z_g; refine d_wit ?_; intro z_g; (first | refine d_skip rfl z_g z_fp ?_ | (refine d_m [(3, _)] ?_ (hg := z_g))); clear z_g; refine d_wit ?_; intro z_g; (first | refine d_skip rfl z_g z_fp ?_ | (refine d_q [(25, _), (26, _)] ?_ (hg := z_g))); clear z_g; refine d_wit ?_; intro z_g; (first | refine d_skip rfl z_g z_fp ?_ | (refine d_m [(0, _)] ?_ (hg := z_g))); clear z_g; refine d_wit ?_; intro z_g; (first | refine d_skip rfl z_g z_fp ?_ | (refine d_m [(3, _)] ?_ (hg := z_g))); clear z_g; refine d_wit ?_; intro z_g; (first | refine d_skip rfl z_g z_fp ?_ | (refine d_q [(28, _), (29, _)] ?_ (hg := z_g))); clear z_g; refine d_wit ?_; intro z_g; (first | refine d_skip rfl z_g z_fp ?_ | (refine d_l [(30, _)] ?_ (hg := z_g))); clear z_g; refine d_wit ?_; intro z_g; (first | refine d_skip rfl z_g z_fp ?_ | (refine d_pure (callOf_eq rfl rfl rfl (mlk_tmp z_lk (mlk_tmp z_lk mlk_nil))) (hfind) rfl z_g z_ip rfl z_fp ?_)); clear z_g; refine d_wit ?_; intro z_g; (first | refine d_skip rfl z_g z_fp ?_ | (refine d_q [(32, _)] ?_ (hg := z_g))); clear z_g; refine d_m [(24, _), (33, _)] ?_; exact d_end z_mt z_sn)) z_su ?_; clear z_ex)
        ((repeat refine WpM.seq ?_); refine WpM.condT (by (simp (maxSteps := 2000000) (disch := omega) [go_sem, -List.map_map, h1', h1'', h2, h2'])) ?_)
        ((repeat refine WpM.seq ?_); have z_ex := True.intro; refine WpM.regPE [] [(2, _)] (by (refine s_m [] ?_; exact wpS_nil ⟨rfl, rfl⟩)) z_su ?_; clear z_ex)
        (refine WpM.ret ?_; refine ⟨.inr rfl, Upd.done ?_⟩; (simp (maxSteps := 2000000) (disch := omega) [go_sem, -List.map_map, resV, resVs, resV1,]))
      · have h2' : ¬ (32 : Int) < s.size := by omega
        have h2'' : s.size ≤ 32 := by omega
        by_cases h3 : 0 ≤ fi
        · have hr : namesB l = false := names_bad hlt (by rw [hnb]; simp; omega)
          rw [hr]
          ((repeat refine WpM.seq ?_); have z_ex := (And.intro @strs.eq_1 (And.intro @hget (And.intro @hlt (And.intro @h1' (And.intro @h1'' (And.intro @h2' (And.intro @h2'' (And.intro @h3 (And.intro @hj True.intro))))))))); refine WpM.drwPE [] [(0, _), (3, _), (34, _)] mixed (by kernel_rfl) (by kernel_rfl) [] (by kernel_rfl) (by (refine d_m [(0, _)] ?_; refine d_m [(3, _)] ?_; refine d_q [(10, _), (11, _)] ?_; refine d_l [(12, _)] ?_; refine d_q [(13, _)] ?_; refine d_q [(14, _)] ?_; refine d_m [(15, _)] ?_; refine d_wit ?_; intro z_g; (first | refine d_skip rfl z_g z_fp ?_ | (refine d_m [(0, _)] ?_ (hg := z_g))); clear z_g; refine d_wit ?_; intro z_g; (first | refine d_skip rfl z_g z_fp ?_ | (refine d_m [(3, _)] ?_ (hg := z_g))); clear z_g; refine d_wit ?_; intro z_g; (first | refine d_skip rfl z_g z_fp ?_ | (refine d_q [(17, _), (18, _)] ?_ (hg := z_g))); clear z_g; refine d_wit ?_; intro z_g; (first | refine d_skip rfl z_g z_fp ?_ | (refine d_l [(19, _)] ?_ (hg := z_g))); clear z_g; refine d_wit ?_; intro z_g; (first | refine d_skip rfl z_g z_fp ?_ | (refine d_q [(20, _)] ?_ (hg := z_g))); clear z_g; refine d_wit ?_; intro z_g; (first | refine d_skip rfl z_g z_fp ?_ | (refine d_q [(21, _)] ?_ (hg := z_g))); clear z_g; refine d_m [(16, _), (22, _)] ?_; refine d_m [(23, _)] ?_; refine d_wit ?_; intro z_g; (first | refine d_skip rfl z_g z_fp ?_ | (refine d_m [(0, _)] ?_ (hg := z_g))); clear z_g; refine d_wit ?_; intro z_g; (first | refine d_skip rfl z_g z_fp ?_ | (refine d_m [(3, _)] ?_ (hg := z_g))); clear z_g; refine d_wit ?_; intro z_g; (first | refine d_skip rfl z_g z_fp ?_ | (refine d_q [(25, _), (26, _)] ?_ (hg := z_g))); clear z_g; refine d_wit ?_; intro z_g; (first | refine d_skip rfl z_g z_fp ?_ | (refine d_m [(0, _)] ?_ (hg := z_g))); clear z_g; refine d_wit ?_; intro z_g; (first | refine d_skip rfl z_g z_fp ?_ | (refine d_m [(3, _)] ?_ (hg := z_g))); clear z_g; refine d_wit ?_; intro z_g; (first | refine d_skip rfl z_g z_fp ?_ | (refine d_q [(28, _), (29, _)] ?_ (hg := z_g))); clear z_g; refine d_wit ?_; intro z_g; (first | refine d_skip rfl z_g z_fp ?_ | (refine d_l [(30, _)] ?_ (hg := z_g))); clear z_g; refine d_wit ?_; intro z_g; (first | refine d_skip rfl z_g z_fp ?_ | (refine d_pure (callOf_eq rfl rfl rfl (mlk_tmp z_lk (mlk_tmp z_lk mlk_nil))) (hfind) rfl z_g z_ip rfl z_fp ?_)); clear z_g; refine d_wit ?_; intro z_g; (first | refine d_skip rfl z_g z_fp ?_ | (refine d_q [(32, _)] ?_ (hg := z_g))); clear z_g; refine d_m [(24, _), (33, _)] ?_; exact d_end z_mt z_sn)) z_su ?_; clear z_ex)
          ((repeat refine WpM.seq ?_); refine WpM.condT (by (simp (maxSteps := 2000000) (disch := omega) [go_sem, -List.map_map, h3])) ?_)
          ((repeat refine WpM.seq ?_); have z_ex := True.intro; refine WpM.regPE [] [(2, _)] (by (refine s_m [] ?_; exact wpS_nil ⟨rfl, rfl⟩)) z_su ?_; clear z_ex)
          (refine WpM.ret ?_; refine ⟨.inr rfl, Upd.done ?_⟩; (simp (maxSteps := 2000000) (disch := omega) [go_sem, -List.map_map, resV, resVs, resV1,]))
        · have h3' : fi < 0 := by omega
          ((repeat refine WpM.seq ?_); have z_ex := (And.intro @strs.eq_1 (And.intro @hget (And.intro @hlt (And.intro @h1' (And.intro @h1'' (And.intro @h2' (And.intro @h2'' (And.intro @h3' (And.intro @hj True.intro))))))))); refine WpM.drwPE [] [(0, _), (3, _), (34, _)] mixed (by kernel_rfl) (by kernel_rfl) [] (by kernel_rfl) (by (refine d_m [(0, _)] ?_; refine d_m [(3, _)] ?_; refine d_q [(10, _), (11, _)] ?_; refine d_l [(12, _)] ?_; refine d_q [(13, _)] ?_; refine d_q [(14, _)] ?_; refine d_m [(15, _)] ?_; refine d_wit ?_; intro z_g; (first | refine d_skip rfl z_g z_fp ?_ | (refine d_m [(0, _)] ?_ (hg := z_g))); clear z_g; refine d_wit ?_; intro z_g; (first | refine d_skip rfl z_g z_fp ?_ | (refine d_m [(3, _)] ?_ (hg := z_g))); clear z_g; refine d_wit ?_; intro z_g; (first | refine d_skip rfl z_g z_fp ?_ | (refine d_q [(17, _), (18, _)] ?_ (hg := z_g))); clear z_g; refine d_wit ?_; intro z_g; (first | refine d_skip rfl z_g z_fp ?_ | (refine d_l [(19, _)] ?_ (hg := z_g))); clear z_g; refine d_wit ?_; intro z_g; (first | refine d_skip rfl z_g z_fp ?_ | (refine d_q [(20, _)] ?_ (hg := z_g))); clear z_g; refine d_wit ?_; intro z_g; (first | refine d_skip rfl z_g z_fp ?_ | (refine d_q [(21, _)] ?_ (hg := z_g))); clear z_g; refine d_m [(16, _), (22, _)] ?_; refine d_m [(23, _)] ?_; refine d_wit ?_; intro z_g; (first | refine d_skip rfl z_g z_fp ?_ | (refine d_m [(0, _)] ?_ (hg := z_g))); clear z_g; refine d_wit ?_; intro z_g; (first | refine d_skip rfl z_g z_fp ?_ | (refine d_m [(3, _)] ?_ (hg := z_g))); clear z_g; refine d_wit ?_; intro z_g; (first | refine d_skip rfl z_g z_fp ?_ | (refine d_q [(25, _), (26, _)] ?_ (hg := z_g))); clear z_g; refine d_wit ?_; intro z_g; (first | refine d_skip rfl z_g z_fp ?_ | (refine d_m [(0, _)] ?_ (hg := z_g))); clear z_g; refine d_wit ?_; intro z_g; (first | refine d_skip rfl z_g z_fp ?_ | (refine d_m [(3, _)] ?_ (hg := z_g))); clear z_g; refine d_wit ?_; intro z_g; (first | refine d_skip rfl z_g z_fp ?_ | (refine d_q [(28, _), (29, _)] ?_ (hg := z_g))); clear z_g; refine d_wit ?_; intro z_g; (first | refine d_skip rfl z_g z_fp ?_ | (refine d_l [(30, _)] ?_ (hg := z_g))); clear z_g; refine d_wit ?_; intro z_g; (first | refine d_skip rfl z_g z_fp ?_ | (refine d_pure (callOf_eq rfl rfl rfl (mlk_tmp z_lk (mlk_tmp z_lk mlk_nil))) (hfind) rfl z_g z_ip rfl z_fp ?_)); clear z_g; refine d_wit ?_; intro z_g; (first | refine d_skip rfl z_g z_fp ?_ | (refine d_q [(32, _)] ?_ (hg := z_g))); clear z_g; refine d_m [(24, _), (33, _)] ?_; exact d_end z_mt z_sn)) z_su ?_; clear z_ex)
          ((repeat refine WpM.seq ?_); refine WpM.condF (by (simp (maxSteps := 2000000) (disch := omega) [go_sem, -List.map_map, h3'])) ?_)
          refine WpM.skip ?_
          ((repeat refine WpM.seq ?_); have z_ex := (And.intro @wrap_id True.intro); refine WpM.regPE [] [(0, _), (3, _)] (by (refine s_m [(3, _)] ?_; refine s_q [(8, _)] ?_; refine s_m [(9, _)] ?_; exact wpS_nil ⟨rfl, rfl⟩)) z_su ?_; clear z_ex)
          have hall' : ∀ i, i < j + 1 → nameB l i = true := fun i hi => by
            rcases Nat.lt_or_ge i j with h' | h'
            · exact hall i h'
            · obtain rfl : i = j := by omega
              rw [hnb]; simp [h3']; omega
          exact round_end (x' := j + 1) (St.Le.refl _) (frLe_frOf (by (simp (maxSteps := 2000000) (disch := omega) [go_sem, -List.map_map, wrap_id]))) ⟨by omega, hall', rfl, _, rfl⟩ (by omega)
  · ((repeat refine WpM.seq ?_); refine WpM.condF (by (simp (maxSteps := 2000000) (disch := omega) [go_sem, -List.map_map, hlt])) ?_)
    (refine WpM.exit ?_; (repeat (with_reducible (first | refine thenM_exit ?_ | refine blockM_eq ?_ | refine blockM_ne (by decide) ?_))))
    obtain rfl : j = l.length := by omega
    rw [names_good hall]
    ((repeat refine WpM.seq ?_); have z_ex := (And.intro @strs.eq_1 True.intro); refine WpM.regPE [] [(2, _)] (by (refine s_m [(0, _)] ?_; refine s_q [(35, _)] ?_; refine s_q [(36, _)] ?_; refine s_m [(37, _)] ?_; exact wpS_nil ⟨rfl, rfl⟩)) z_su ?_; clear z_ex)
    by_cases h32 : l.length ≤ 32
    · (refine WpM.ret ?_; refine ⟨.inr rfl, Upd.done ?_⟩; (simp (maxSteps := 2000000) (disch := omega) [go_sem, -List.map_map, resV, resVs, resV1, h32]))
      omega
    · have : 32 < l.length := by omega
      (refine WpM.ret ?_; refine ⟨.inr rfl, Upd.done ?_⟩; (simp (maxSteps := 2000000) (disch := omega) [go_sem, -List.map_map, resV, resVs, resV1, h32]))
      omega
end Go.Proofs.Ytjjmedgibcffhaa
