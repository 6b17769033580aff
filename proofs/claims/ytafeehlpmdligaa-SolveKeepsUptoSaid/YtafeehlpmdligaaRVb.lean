/- The search learns, decides, and answers rightly. -/
import Derived.Test.YtafeehlpmdligaaRVa
import Derived.Test.YtafeehlpmdligaaRModel
namespace Go.Proofs.Ytafeehlpmdligaa
open Go.RowKit M
set_option linter.unusedSimpArgs false
set_option linter.unusedVariables false
theorem count_iff {l : List Nat} (h : l.Pairwise (· < ·)) {p : Nat} : ∀ (i : Nat) (hi : i < l.length), l[i] ≤ p ↔ i < (l.filter (· ≤ p)).length := by
  induction l with
  | nil => simp
  | cons a l ih =>
    obtain ⟨h1, h2⟩ := List.pairwise_cons.1 h
    intro i hi
    rw [List.filter_cons]
    by_cases ha : a ≤ p
    · rw [if_pos (by simpa using ha)]
      cases i with
      | zero => simp [ha]
      | succ i =>
        simp only [List.getElem_cons_succ, List.length_cons]
        rw [ih h2 i (by simpa using hi)]
        omega
    · rw [if_neg (by simpa using ha)]
      have : l.filter (· ≤ p) = [] := by
        rw [List.filter_eq_nil_iff]
        intro b hb
        have := h1 b hb
        simp; omega
      rw [this]
      cases i with
      | zero => simp; omega
      | succ i =>
        have := h1 (l[i]'(by simpa using hi)) (List.getElem_mem _)
        simp only [List.getElem_cons_succ, List.length_nil]
        omega
theorem Sv.Wf.not_take {s : Sv} (h : s.Wf) {p t : Nat} (hp : p < s.tr.length) (ht : t ≤ p) : s.tr[p] ∉ s.tr.take t := by
  intro hm
  obtain ⟨i, hi, e⟩ := List.mem_take_iff_getElem.1 hm
  have := h.abs_inj (by omega) hp (congrArg Int.natAbs e)
  omega
theorem back_fields (s : Sv) (k : Nat) : (s.back k).n = s.n ∧ (s.back k).cs = s.cs ∧ (s.back k).pf = s.pf ∧ (s.back k).tr = s.tr.take (s.lv.getD k 0) ∧ (s.back k).lv = s.lv.take k ∧ (s.back k).dn = min s.dn (s.lv.getD k 0) := by
  obtain ⟨f1, f2, f3, f4, f5, f6, f7, f8⟩ := unset_fold (s.tr.drop (s.lv.getD k 0)) s
  exact ⟨f1, f2, f4, rfl, rfl, rfl⟩
/-- Where a learnt clause's decisions stand. -/
structure Learnt (s : Sv) (x : Int) (r : List Int) (k : Nat) : Prop where
  k_lt : k < s.lv.length
  head : ∃ (p : Nat) (hp : p < s.tr.length), p ∈ s.lv ∧ x = -s.tr[p] ∧ s.lv.getD k 0 ≤ p
  tail : ∀ z ∈ r, ∃ (q : Nat) (hq : q < s.tr.length), q ∈ s.lv ∧ z = -s.tr[q] ∧ q < s.lv.getD k 0
  low : r = [] ∧ k = 0 ∨ ∃ y ∈ r, y ≠ x ∧ ∃ (q : Nat) (hq : q < s.tr.length), y = -s.tr[q] ∧ ∀ t ∈ s.lv.take k, t ≤ q
theorem learnt {s : Sv} (h : s.Wf) {m : Nat} {seen : List Nat} {x : Int} {r : List Int} (hB : Blamed s m (x :: r) seen) : Learnt s x r (s.level r) := by
  obtain ⟨p, hp, hpl, hx⟩ := hB.dec x (by simp)
  have hlv := fun p => count_iff (p := p) h.lvs
  have hin : ∀ (q : Nat), q ∈ s.lv → ∃ i, ∃ hi : i < s.lv.length, s.lv[i] = q := fun q hq => List.getElem_of_mem hq
  cases r with
  | nil =>
    obtain ⟨i, hi, e⟩ := hin p hpl
    have h0 : 0 < s.lv.length := by omega
    refine ⟨h0, ⟨p, hp, hpl, hx, ?_⟩, by simp, .inl ⟨rfl, rfl⟩⟩
    show s.lv.getD 0 0 ≤ p
    have : s.lv.getD 0 0 = s.lv[0] := by simp [h0]
    rw [this, ← e]
    rcases Nat.eq_zero_or_pos i with rfl | hi0
    · exact Nat.le_refl _
    · exact Nat.le_of_lt (List.pairwise_iff_getElem.1 h.lvs 0 i h0 hi hi0)
  | cons y r =>
    obtain ⟨q, hq, hql, hy⟩ := hB.dec y (by simp)
    have hs := List.pairwise_cons.1 hB.sorted
    have hs2 := List.pairwise_cons.1 hs.2
    have hn := List.nodup_cons.1 (show ((x.natAbs :: (y :: r).map Int.natAbs)).Nodup from hB.nodup)
    have dep_of : ∀ (z : Int) (i : Nat) (hi : i < s.tr.length), z = -s.tr[i] → s.dep.getD z.natAbs 0 = (s.lv.filter (· ≤ i)).length := fun z i hi hz => by
      rw [hz, Int.natAbs_neg]; exact h.dpt i hi
    have hkd := dep_of y q hq hy
    have hpd := dep_of x p hp hx
    -- the place of a decision, told by its depth
    have le_of : ∀ (i j : Nat) (hi : i < s.tr.length) (hj : j < s.tr.length), i ∈ s.lv → j ∈ s.lv → (s.lv.filter (· ≤ i)).length ≤ (s.lv.filter (· ≤ j)).length → i ≤ j := by
      intro i j hi hj hil hjl hle
      obtain ⟨a, ha, rfl⟩ := hin i hil
      have h1 := (hlv (s.lv[a]) a ha).1 (Nat.le_refl _)
      exact (hlv (j) a ha).2 (by omega)
    have hqp : q < p := by
      have h1 := hs.1 y (by simp)
      rw [hkd, hpd] at h1
      have h2 := le_of q p hq hp hql hpl h1
      have h3 : q ≠ p := by
        rintro rfl
        exact hn.1 (by rw [hx, hy]; simp)
      omega
    have hkl : (s.lv.filter (· ≤ q)).length < s.lv.length := by
      rcases Nat.lt_or_ge (s.lv.filter (· ≤ q)).length s.lv.length with h1 | h1
      · exact h1
      · exfalso
        obtain ⟨a, ha, e⟩ := hin p hpl
        have := (hlv (q) a ha).2 (by omega)
        omega
    have hget : s.lv.getD (s.lv.filter (· ≤ q)).length 0 = s.lv[(s.lv.filter (· ≤ q)).length] := by simp [hkl]
    have hqt : q < s.lv.getD (s.lv.filter (· ≤ q)).length 0 := by
      rw [hget]
      have := hlv (q) _ hkl
      omega
    show Learnt s x (y :: r) (s.dep.getD y.natAbs 0)
    rw [hkd]
    refine ⟨hkl, ⟨p, hp, hpl, hx, ?_⟩, fun z hz => ?_, .inr ⟨y, by simp, fun e => ?_, q, hq, hy, fun t ht => ?_⟩⟩
    · rw [hget]
      obtain ⟨a, ha, e⟩ := hin p hpl
      have h1 := (hlv (q) a ha)
      have h2 : (s.lv.filter (· ≤ q)).length ≤ a := by omega
      rcases Nat.eq_or_lt_of_le h2 with h3 | h3
      · have : s.lv[(s.lv.filter (· ≤ q)).length] = s.lv[a] := by congr 1
        rw [this, e]
        exact Nat.le_refl _
      · have := List.pairwise_iff_getElem.1 h.lvs _ a hkl ha h3
        omega
    · obtain ⟨i, hi, hil, hz'⟩ := hB.dec z (by simp only [List.mem_cons]; exact .inr (by simpa using hz))
      refine ⟨i, hi, hil, hz', ?_⟩
      have hiq : i ≤ q := by
        rcases List.mem_cons.1 hz with rfl | hz2
        · rw [hy] at hz'
          have : s.tr[q] = s.tr[i] := by omega
          exact Nat.le_of_eq (h.abs_inj hi hq (by rw [this]))
        · have := hs2.1 z hz2
          rw [hkd, dep_of z i hi hz'] at this
          exact le_of i q hi hq hil hql this
      omega
    · exact hn.1 (by rw [← e]; simp)
    · obtain ⟨a, ha, rfl⟩ := List.mem_take_iff_getElem.1 ht
      exact (hlv (q) a (by omega)).2 (by omega)
theorem learn_eq {s : Sv} {m : Nat} {x : Int} {r : List Int} (h : s.blame m = x :: r) : s.learn m = (true, ({ ({ s with pf := s.pf ++ [x :: r] } : Sv).back (s.level r) with cs := s.cs ++ [x :: r] } : Sv).put x (s.cs.length + 1)) := by
  unfold Sv.learn
  rw [h]
  simp only [(back_fields _ _).2.1]
theorem learn_nil {s : Sv} {m : Nat} (h : s.blame m = []) : s.learn m = (false, { s with pf := s.pf ++ [[]] }) := by
  unfold Sv.learn
  rw [h]
theorem Blamed.len {s : Sv} (h : s.Wf) {m : Nat} {c : List Int} {seen : List Nat} (hB : Blamed s m c seen) : c.length ≤ s.n := by
  have := nodup_le_n s.n (c.map Int.natAbs) hB.nodup fun v hv => by
    obtain ⟨x, hx, rfl⟩ := List.mem_map.1 hv
    obtain ⟨p, hp, _, rfl⟩ := hB.dec x hx
    rw [Int.natAbs_neg]
    exact h.v_le (List.mem_map_of_mem (List.getElem_mem hp))
  simpa using this
theorem prf_snoc {orig : List (List Int)} {pf : List (List Int)} {c : List Int} (h : ∀ i (hi : i < pf.length), Follows (orig ++ pf.take i) pf[i]) (hc : Follows (orig ++ pf) c) : ∀ i (hi : i < (pf ++ [c]).length), Follows (orig ++ (pf ++ [c]).take i) (pf ++ [c])[i] := by
  intro i hi
  rcases Nat.lt_or_ge i pf.length with h1 | h1
  · rw [List.getElem_append_left h1, List.take_append_of_le_length (Nat.le_of_lt h1)]
    exact h i h1
  · have : i = pf.length := by simp at hi; omega
    subst this
    rw [List.take_append_of_le_length (Nat.le_refl _), List.take_length]
    simpa using hc
/-- Srch.follow with what it is told from. -/
theorem Srch.follow3 {orig : List (List Int)} {s : Sv} {steps : Nat} (h : s.Wf) (hc : s.Cur) (hcs : s.cs = orig ++ s.pf) (hlv : ∀ t ∈ s.lv, ∀ m, m < s.cs.length → Fine (s.tr.take t) (s.tr.take t) (s.cs.getD m [])) (hdn : ∀ t ∈ s.lv, t ≤ s.dn)
    (hprf : ∀ i (h : i < s.pf.length), Follows (orig ++ s.pf.take i) s.pf[i]) (hpl : ∀ c ∈ s.pf, c.length ≤ s.n) (hps : s.pf.length ≤ steps) : s.Wf ∧ s.Cur ∧ Srch orig s.follow.1 s.follow.2 steps := ⟨h, hc, Srch.follow h hc hcs hlv hdn hprf hpl hps⟩
/-- A contradiction is learnt from. -/
theorem Srch.learn3 {orig : List (List Int)} {s : Sv} {m steps : Nat} (h : Srch orig s (some m) steps) {x : Int} {r : List Int} (hb : s.blame m = x :: r) : (s.learn m).2.Wf ∧ (s.learn m).2.Cur ∧ Srch orig (s.learn m).2.follow.1 (s.learn m).2.follow.2 (steps + 1) := by
  obtain ⟨hcf, hdn⟩ := h.now
  have hw := h.wf
  obtain ⟨seen, hB⟩ := blamed hw hcf
  have hfol := blame_follows hw hcf
  rw [hb] at hB hfol
  have hL := learnt hw hB
  rw [learn_eq hb]
  have hlen := hB.len hw
  have hlit : ∀ l ∈ x :: r, l ≠ 0 ∧ l.natAbs ≤ s.n := fun l hl => by
    obtain ⟨p, hp, _, rfl⟩ := hB.dec l hl
    have := hw.trl _ (List.getElem_mem hp)
    rw [Int.natAbs_neg]
    omega
  obtain ⟨k, hk⟩ : ∃ k, k = (s.level r) := ⟨_, rfl⟩
  rw [← hk] at hL ⊢
  clear hk
  obtain ⟨to, hto⟩ : ∃ to, to = s.lv.getD k 0 := ⟨_, rfl⟩
  have htom : to ∈ s.lv := by
    have : s.lv.getD k 0 = s.lv[k]'hL.k_lt := by simp [hL.k_lt]
    rw [hto, this]
    exact List.getElem_mem _
  have htl := hw.lvl to htom
  have htd := hdn to htom
  have hw1 : ({ s with pf := s.pf ++ [x :: r] } : Sv).Wf := ⟨hw.vlen, hw.rlen, hw.dlen, hw.lit, hw.trl, hw.nodup, hw.tval, hw.tri, hw.zero, hw.lvs, hw.lvl, hw.dnl, hw.dpt, hw.dec, hw.why⟩
  obtain ⟨s2, hs2⟩ : ∃ s2, s2 = ({ s with pf := s.pf ++ [x :: r] } : Sv).back k := ⟨_, rfl⟩
  have hw2 : s2.Wf := by rw [hs2]; exact hw1.back hL.k_lt
  obtain ⟨b1, b2, b3, b4, b5, b6⟩ := back_fields ({ s with pf := s.pf ++ [x :: r] } : Sv) k
  rw [← hs2] at b1 b2 b3 b4 b5 b6 ⊢
  have b1 : s2.n = s.n := b1
  have b2 : s2.cs = s.cs := b2
  have b3 : s2.pf = s.pf ++ [x :: r] := b3
  have b4 : s2.tr = s.tr.take to := by rw [hto]; exact b4
  have b5 : s2.lv = s.lv.take k := b5
  have b6 : s2.dn = to := by
    have : s2.dn = min s.dn (s.lv.getD k 0) := b6
    rw [this, ← hto]
    omega
  clear hs2
  obtain ⟨p, hp, hpl, hx, hpt⟩ := hL.head
  have hw3 := hw2.add (c := x :: r) (by rw [b1]; exact hlit) s2.pf
  have hxf : x ∉ s2.tr := by
    rw [b4, hx]
    exact fun hm => hw.apart (List.getElem_mem hp) (List.mem_of_mem_take hm)
  have hxf' : -x ∉ s2.tr := by
    rw [b4, hx, Int.neg_neg]
    exact hw.not_take hp (by rw [hto]; exact hpt)
  have hcsl : s2.cs.length = s.cs.length := by rw [b2]
  have hw4 : (({ s2 with cs := s.cs ++ [x :: r] } : Sv).put x (s.cs.length + 1)).Wf := by
    rw [← b2]
    have := hw3.push (l := x) (hlit x (by simp)).1 (by show x.natAbs ≤ s2.n; rw [b1]; exact (hlit x (by simp)).2) hxf hxf' s2.lv (s2.cs.length + 1) (.inr ⟨rfl, s2.cs.length, rfl, by simp, by simp, fun z hz => ?_⟩)
    · exact this
    · have hz' : z ∈ x :: r := by simpa using hz
      rcases List.mem_cons.1 hz' with rfl | hz'
      · exact .inl rfl
      · right
        obtain ⟨q, hq, _, hzq, hqt⟩ := hL.tail z hz'
        show -z ∈ s2.tr
        rw [b4, hzq, Int.neg_neg]
        rw [← hto] at hqt
        exact List.mem_take_iff_getElem.2 ⟨q, by omega, rfl⟩
  obtain ⟨s4, hs4⟩ : ∃ s4, s4 = ({ s2 with cs := s.cs ++ [x :: r] } : Sv).put x (s.cs.length + 1) := ⟨_, rfl⟩
  have c1 : s4.n = s.n := by rw [hs4]; exact b1
  have c2 : s4.cs = s.cs ++ [x :: r] := by rw [hs4]; rfl
  have c3 : s4.pf = s.pf ++ [x :: r] := by rw [hs4]; exact b3
  have c4 : s4.tr = s.tr.take to ++ [x] := by rw [hs4, ← b4]; rfl
  have c5 : s4.lv = s.lv.take k := by rw [hs4]; exact b5
  have c6 : s4.dn = to := by rw [hs4]; exact b6
  rw [← hs4] at hw4 ⊢
  clear hs4
  have htk : (s.tr.take to).length = to := by rw [List.length_take]; omega
  have hnew : (s.cs ++ [x :: r]).getD s.cs.length [] = x :: r := by simp
  have cases_m : ∀ m, m < (s.cs ++ [x :: r]).length → (m < s.cs.length ∧ (s.cs ++ [x :: r]).getD m [] = s.cs.getD m []) ∨ m = s.cs.length := fun m hm => by
    rcases Nat.lt_or_ge m s.cs.length with h1 | h1
    · exact .inl ⟨h1, getD_snoc_lt h1⟩
    · right; simp at hm; omega
  refine Srch.follow3 hw4 ?_ (by rw [c2, c3, h.cs, List.append_assoc]) ?_ ?_ ?_ ?_ ?_
  · intro m' hm'
    rw [c2] at hm' ⊢
    rw [c4, c6, List.take_append_of_le_length (by omega), List.take_of_length_le (by omega)]
    rcases cases_m m' hm' with ⟨h1, e⟩ | rfl
    · rw [e]
      exact (h.lvf to htom m' h1).mono fun z hz => List.mem_append_left _ hz
    · rw [hnew]
      exact .inl ⟨x, by simp, by simp⟩
  · intro t ht m' hm'
    rw [c5] at ht
    rw [c2] at hm' ⊢
    have htl2 : t < s.tr.length := hw.lvl t (List.mem_of_mem_take ht)
    have htt : t < to := by
      obtain ⟨a, ha, rfl⟩ := List.mem_take_iff_getElem.1 ht
      have : to = s.lv[k]'hL.k_lt := by rw [hto]; simp [hL.k_lt]
      rw [this]
      exact List.pairwise_iff_getElem.1 hw.lvs a k (by omega) hL.k_lt (by omega)
    rw [c4, List.take_append_of_le_length (by omega), List.take_take, Nat.min_eq_left (by omega)]
    rcases cases_m m' hm' with ⟨h1, e⟩ | rfl
    · rw [e]
      exact h.lvf t (List.mem_of_mem_take ht) m' h1
    · rw [hnew]
      rcases hL.low with ⟨_, rfl⟩ | ⟨y, hy, hne, q, hq, hyq, hlow⟩
      · simp at ht
      · refine .inr ⟨x, by simp, y, by simp [hy], hne.symm, ?_, ?_⟩
        · rw [hx, Int.neg_neg]
          exact hw.not_take hp (by omega)
        · rw [hyq, Int.neg_neg]
          exact hw.not_take hq (hlow t ht)
  · intro t ht
    rw [c5] at ht
    rw [c6]
    obtain ⟨a, ha, rfl⟩ := List.mem_take_iff_getElem.1 ht
    have : to = s.lv[k]'hL.k_lt := by rw [hto]; simp [hL.k_lt]
    rw [this]
    exact Nat.le_of_lt (List.pairwise_iff_getElem.1 hw.lvs a k (by omega) hL.k_lt (by omega))
  · show ∀ i (h : i < s4.pf.length), Follows (orig ++ s4.pf.take i) s4.pf[i]
    rw [c3]
    exact prf_snoc h.prf (by rw [← h.cs]; exact hfol)
  · rw [c3, c1]
    intro c hc
    rcases List.mem_append.1 hc with hc | hc
    · exact h.pfl c hc
    · rw [List.mem_singleton] at hc
      subst hc
      exact hlen
  · rw [c3]
    have := h.pfs
    simp
    omega
theorem Srch.learn {orig : List (List Int)} {s : Sv} {m steps : Nat} (h : Srch orig s (some m) steps) {x : Int} {r : List Int} (hb : s.blame m = x :: r) : Srch orig (s.learn m).2.follow.1 (s.learn m).2.follow.2 (steps + 1) := (h.learn3 hb).2.2
theorem free_some {s : Sv} (h : s.Wf) {v : Nat} (hf : s.free = some v) : 1 ≤ v ∧ v ≤ s.n ∧ s.val.getD v 0 = 0 := by
  unfold Sv.free at hf
  obtain ⟨u, h1, rfl⟩ := Option.map_eq_some_iff.1 hf
  have h2 := List.find?_some h1
  have h3 := List.mem_of_find?_eq_some h1
  simp at h2 h3
  exact ⟨by omega, by omega, by simpa using h2⟩
theorem free_none {s : Sv} (hf : s.free = none) : ∀ v, 1 ≤ v → v ≤ s.n → s.val.getD v 0 ≠ 0 := by
  unfold Sv.free at hf
  rw [Option.map_eq_none_iff, List.find?_eq_none] at hf
  intro v h1 h2
  have := hf (v - 1) (by simp; omega)
  rw [show v - 1 + 1 = v by omega] at this
  simpa using this
/-- A variable is decided. -/
theorem Srch.decide3 {orig : List (List Int)} {s s' : Sv} {steps : Nat} (h : Srch orig s none steps) (hd : s.decide = some s') : s'.Wf ∧ s'.Cur ∧ Srch orig s'.follow.1 s'.follow.2 (steps + 1) := by
  obtain ⟨hdn, hcur⟩ := h.now
  have hw := h.wf
  unfold Sv.decide at hd
  obtain ⟨v, hv, rfl⟩ := Option.map_eq_some_iff.1 hd
  obtain ⟨h1, h2, h3⟩ := free_some hw hv
  have ht : truV s.val (v : Int) = 0 := by
    unfold truV
    rw [Int.natAbs_natCast, h3]
    simp
  obtain ⟨f1, f2⟩ := (hw.free_iff (by omega) (by simpa using h2)).1 ht
  have hw' := hw.push (l := (v : Int)) (by omega) (by simpa using h2) f1 f2 (s.lv ++ [s.tr.length]) 0 (.inl ⟨rfl, rfl⟩)
  refine Srch.follow3 hw' ?_ h.cs ?_ ?_ h.prf h.pfl (Nat.le_succ_of_le h.pfs)
  · intro m hm
    show Fine ((s.tr ++ [(v : Int)]).take s.dn) (s.tr ++ [(v : Int)]) (s.cs.getD m [])
    rw [List.take_append_of_le_length (by omega)]
    exact (hcur m hm).mono fun x hx => List.mem_append_left _ hx
  · intro t ht m hm
    show Fine ((s.tr ++ [(v : Int)]).take t) ((s.tr ++ [(v : Int)]).take t) (s.cs.getD m [])
    have ht' : t ∈ s.lv ++ [s.tr.length] := ht
    rcases List.mem_append.1 ht' with ht' | ht'
    · rw [List.take_append_of_le_length (Nat.le_of_lt (hw.lvl t ht'))]
      exact h.lvf t ht' m hm
    · rw [List.mem_singleton] at ht'
      subst ht'
      rw [List.take_append_of_le_length (Nat.le_refl _), List.take_length]
      have := hcur m hm
      rw [hdn, List.take_length] at this
      exact this
  · intro t ht
    have ht' : t ∈ s.lv ++ [s.tr.length] := ht
    show t ≤ s.dn
    rcases List.mem_append.1 ht' with ht' | ht'
    · have := hw.lvl t ht'
      omega
    · rw [List.mem_singleton] at ht'
      omega
theorem Srch.decide {orig : List (List Int)} {s s' : Sv} {steps : Nat} (h : Srch orig s none steps) (hd : s.decide = some s') : Srch orig s'.follow.1 s'.follow.2 (steps + 1) := (h.decide3 hd).2.2
/-- A model. -/
theorem Srch.model {orig : List (List Int)} {s : Sv} {steps : Nat} (h : Srch orig s none steps) (hf : s.free = none) : orig.all (holdsM s.model) = true ∧ s.model.length = s.n + 1 ∧ s.model.getD 0 false = false := by
  obtain ⟨hdn, hcur⟩ := h.now
  have hw := h.wf
  have hget : ∀ v, s.model.getD v false = Decidable.decide (0 < s.val.getD v 0) := fun v => by
    unfold Sv.model
    simp only [List.getD_eq_getElem?_getD, List.getElem?_map]
    cases s.val[v]? <;> simp
  refine ⟨?_, by unfold Sv.model; rw [List.length_map]; exact hw.vlen, by rw [hget, hw.zero]; rfl⟩
  rw [List.all_eq_true]
  intro c hc
  obtain ⟨m, hm, rfl⟩ := List.getElem_of_mem hc
  have hml : m < s.cs.length := by rw [h.cs]; simp; omega
  have he : s.cs.getD m [] = orig[m] := by rw [h.cs]; simp [List.getElem?_append, hm]
  have hfine := hcur m hml
  rw [hdn, List.take_length, he] at hfine
  have h0 : ∀ l ∈ orig[m], l ≠ 0 ∧ l.natAbs ≤ s.n := by
    have := hw.clause m
    rw [he] at this
    exact this
  have key : ∃ l ∈ orig[m], l ∈ s.tr := by
    rcases hfine with h1 | ⟨a, ha, b, hb, hne, h1, h2⟩
    · exact h1
    · refine ⟨a, ha, ?_⟩
      obtain ⟨a0, an⟩ := h0 a ha
      have hv := free_none hf a.natAbs (by omega) an
      have h3 : truV s.val a ≠ 0 := by
        unfold truV
        split <;> omega
      have h4 := truV_tri hw.tri a
      have h5 : truV s.val a ≠ -1 := fun e => h1 ((hw.false_iff a0 an).1 e)
      exact (hw.true_iff a0 an).1 (by omega)
  obtain ⟨l, hl, hlt⟩ := key
  obtain ⟨l0, ln⟩ := h0 l hl
  unfold holdsM
  rw [List.any_eq_true]
  refine ⟨l, hl, ?_⟩
  have ht := (hw.true_iff l0 ln).2 hlt
  unfold litT
  rw [hget]
  unfold truV at ht
  split at ht
  · have e : s.val.getD l.natAbs 0 = -1 := by omega
    have hneg : ¬ 0 < l := by omega
    rw [e]
    simp [hneg]
  · have hpos : 0 < l := by omega
    rw [ht]
    simp [hpos]
end Go.Proofs.Ytafeehlpmdligaa
/- Every answer of the search is right. -/
namespace Go.Proofs.Ytafeehlpmdligaa
open Go.RowKit M
set_option linter.unusedSimpArgs false
set_option linter.unusedVariables false
def litsOk (n : Nat) (cs : List (List Int)) : Prop := ∀ c ∈ cs, ∀ l ∈ c, l ≠ 0 ∧ l.natAbs ≤ n
theorem start_wf {n : Nat} {cs : List (List Int)} (h : litsOk n cs) : (Sv.start n cs).Wf := by
  have z : ∀ v, (List.replicate (n + 1) (0 : Int)).getD v 0 = 0 := fun v => by
    simp only [List.getD_eq_getElem?_getD, List.getElem?_replicate]
    split <;> rfl
  have t0 : ∀ l, truV (List.replicate (n + 1) (0 : Int)) l = 0 := fun l => by unfold truV; rw [z]; simp
  refine ⟨by simp [Sv.start], by simp [Sv.start], by simp [Sv.start], h, by simp [Sv.start], by simp [Sv.start], fun l _ _ => ?_, fun v => .inl (z v), z 0, by simp [Sv.start], by simp [Sv.start], by simp [Sv.start], ?_, ?_, ?_⟩
  · show truV (List.replicate (n + 1) (0 : Int)) l = 1 ↔ l ∈ []
    rw [t0]; simp
  all_goals (intro p hp; exact absurd hp (Nat.not_lt_zero _))
theorem begin_srch {n : Nat} {cs : List (List Int)} (h : litsOk n cs) : Srch cs (Sv.start n cs).begin.1 (Sv.start n cs).begin.2 0 ∧ (Sv.start n cs).begin.1.n = n := by
  have hw := start_wf h
  obtain ⟨i1, i2, i3, i4⟩ := looks_spec (List.range cs.length) hw (by simp [Sv.start])
  have hpf : ((Sv.start n cs).looks (List.range cs.length)).1.pf = [] := i2.pf
  have hcs : ((Sv.start n cs).looks (List.range cs.length)).1.cs = cs := i2.cs
  have hlv : ((Sv.start n cs).looks (List.range cs.length)).1.lv = [] := i2.lv
  have hnn : ((Sv.start n cs).looks (List.range cs.length)).1.n = n := i2.n
  have hdn : ((Sv.start n cs).looks (List.range cs.length)).1.dn = 0 := i3
  have e : (Sv.start n cs).begin = match (Sv.start n cs).looks (List.range cs.length) with
    | (s', some m) => (s', some m)
    | (s', none) => s'.follow := rfl
  rw [e]
  generalize hq : (Sv.start n cs).looks (List.range cs.length) = q at *
  obtain ⟨s', w⟩ := q
  simp only at i1 i2 i3 i4 hpf hcs hlv hnn hdn ⊢
  cases w with
  | some m =>
    simp only at i4 ⊢
    exact ⟨⟨i1, by rw [hcs, hpf, List.append_nil], by rw [hlv]; simp, ⟨i4, by rw [hlv]; simp⟩, by rw [hpf]; simp, by rw [hpf]; simp, by rw [hpf]; simp⟩, hnn⟩
  | none =>
    simp only at i4 ⊢
    have hcur : s'.Cur := fun m hm => by
      rw [hcs] at hm ⊢
      rw [hdn, List.take_zero]
      exact i4 m (by simpa using hm) [] (by simp)
    refine ⟨Srch.follow i1 hcur (by rw [hcs, hpf, List.append_nil]) (by rw [hlv]; simp) (by rw [hlv]; simp) (by rw [hpf]; simp) (by rw [hpf]; simp) (by rw [hpf]; simp), ?_⟩
    rw [(follow_spec i1 hcur).2.2.1.n]
    exact hnn
/-- Is it an answer? -/
structure RightA (n : Nat) (orig : List (List Int)) (budget : Nat) (a : AnsD) : Prop where
  low : 0 ≤ a.steps
  high : a.steps ≤ budget
  code : a.code = 1 ∨ a.code = 2 ∨ a.code = 3
  one : a.code = 1 → a.model = [] ∧ a.proof.getLast? = some [] ∧ (∀ i (h : i < a.proof.length), Follows (orig ++ a.proof.take i) a.proof[i]) ∧ litsOk n a.proof ∧ (∀ c ∈ a.proof, c.length ≤ n) ∧ (a.proof.length : Int) ≤ a.steps
  two : a.code = 2 → a.proof = [] ∧ orig.all (holdsM a.model) = true ∧ a.model.length = n + 1 ∧ a.model.getD 0 false = false
  three : a.code = 3 → a.model = [] ∧ a.proof = [] ∧ a.steps = budget
theorem no_zero {s : Sv} (h : s.Wf) (hz : (0 : Int) ∉ s.val.drop 1) : s.free = none := by
  cases hf : s.free with
  | none => rfl
  | some v =>
    obtain ⟨h1, h2, h3⟩ := free_some h hf
    exfalso
    apply hz
    have hl := h.vlen
    have : s.val.getD v 0 = s.val[v]'(by omega) := by simp [show v < s.val.length by omega]
    rw [this] at h3
    refine List.mem_drop_iff_getElem.2 ⟨v - 1, by omega, ?_⟩
    have e : 1 + (v - 1) = v := by omega
    simp only [e]
    exact h3
theorem learn_false {s : Sv} {m : Nat} (h : (s.learn m).1 = false) : s.blame m = [] := by
  cases hb : s.blame m with
  | nil => rfl
  | cons x r => rw [learn_eq hb] at h; cases h
theorem follow_n {s : Sv} (h : s.Wf) (hc : s.Cur) : s.follow.1.n = s.n := (follow_spec h hc).2.2.1.n
theorem learn_true {s : Sv} {m : Nat} (h : (s.learn m).1 = true) : ∃ x r, s.blame m = x :: r := by
  cases hb : s.blame m with
  | nil => rw [learn_nil hb] at h; cases h
  | cons x r => exact ⟨x, r, rfl⟩
theorem looks_n : ∀ (L : List Nat) (s : Sv), (s.looks L).1.n = s.n
  | [], s => rfl
  | m :: r, s => by
    have hl : (s.look m).2.n = s.n := by
      unfold Sv.look
      split
      · rfl
      · split <;> rfl
    rw [Sv.looks]
    split
    · rw [looks_n r, hl]
    · exact hl
theorem followN_n : ∀ (k : Nat) (s : Sv) (r : Sv × Option Nat), s.followN k = some r → r.1.n = s.n
  | 0, s, r, h => by cases h
  | k + 1, s, r, h => by
    rw [Sv.followN] at h
    split at h
    · have hr : s.round.1.n = s.n := looks_n _ _
      generalize s.round = q at h hr
      obtain ⟨s', w⟩ := q
      cases w with
      | none => rw [followN_n k s' r h]; exact hr
      | some m =>
        simp only [Option.some.injEq] at h
        subst h
        exact hr
    · simp only [Option.some.injEq] at h
      subst h
      rfl
theorem follow_n' (s : Sv) : s.follow.1.n = s.n := by
  unfold Sv.follow
  cases h : s.followN (s.n + 2) with
  | none => rfl
  | some r => exact followN_n _ _ _ h
theorem learn_n (s : Sv) (m : Nat) : (s.learn m).2.n = s.n := by
  cases hb : s.blame m with
  | nil => rw [learn_nil hb]
  | cons x r =>
    rw [learn_eq hb]
    exact (back_fields _ _).1
theorem decide_n {s s' : Sv} (h : s.decide = some s') : s'.n = s.n := by
  unfold Sv.decide at h
  obtain ⟨v, _, rfl⟩ := Option.map_eq_some_iff.1 h
  rfl
theorem runS_right {n : Nat} {orig : List (List Int)} (budget : Nat) : ∀ (k : Nat) {s : Sv} {w : Option Nat} {steps : Nat}, Srch orig s w steps → s.n = n → steps + k = budget + 1 → steps ≤ budget → ∃ a, runS budget k s w steps = some a ∧ RightA n orig budget a
  | 0, s, w, steps, h, hn, hk, hle => by omega
  | k + 1, s, w, steps, h, hn, hk, hle => by
    rw [runS]
    unfold turnS
    by_cases hc : steps = budget ∧ (w.isSome = true ∨ (0 : Int) ∈ s.val.drop 1)
    · rw [if_pos hc]
      exact ⟨_, rfl, ⟨by simp, by simp only; omega, by simp, by simp, by simp, fun _ => ⟨rfl, rfl, by simp only; omega⟩⟩⟩
    · rw [if_neg hc]
      cases w with
      | some m =>
        have hlt : steps < budget := by
          rcases Nat.lt_or_ge steps budget with h1 | h1
          · exact h1
          · exact absurd ⟨by omega, .inl rfl⟩ hc
        cases hl : (s.learn m).1 with
        | true =>
          simp only [hl, if_true]
          obtain ⟨x, r, hb⟩ := learn_true hl
          obtain ⟨a, h1, h2⟩ := runS_right budget k (h.learn hb) (by rw [follow_n', learn_n, hn]) (by omega) (by omega)
          exact ⟨a, h1, h2⟩
        | false =>
          simp only [hl, Bool.false_eq_true, if_false]
          have hb := learn_false hl
          obtain ⟨hcf, _⟩ := h.now
          have hfol := blame_follows h.wf hcf
          rw [hb, h.cs] at hfol
          have hps := h.pfs
          rw [learn_nil hb]
          refine ⟨_, rfl, ⟨by simp only; omega, by simp only; omega, by simp, fun _ => ⟨rfl, by simp, prf_snoc h.prf hfol, ?_, ?_, ?_⟩, by simp, by simp⟩⟩
          · intro c hc
            rcases List.mem_append.1 hc with hc | hc
            · rw [← hn]
              exact h.wf.lit c (by rw [h.cs]; exact List.mem_append_right _ hc)
            · simp at hc; subst hc; simp
          · intro c hc
            rcases List.mem_append.1 hc with hc | hc
            · rw [← hn]; exact h.pfl c hc
            · simp at hc; subst hc; simp
          · simp only [List.length_append, List.length_singleton]; omega
      | none =>
        cases hd : s.decide with
        | some s' =>
          have hlt : steps < budget := by
            rcases Nat.lt_or_ge steps budget with h1 | h1
            · exact h1
            · exfalso
              have hz : (0 : Int) ∉ s.val.drop 1 := fun e => hc ⟨by omega, .inr e⟩
              have := no_zero h.wf hz
              unfold Sv.decide at hd
              rw [this] at hd
              cases hd
          simp only [hd]
          obtain ⟨a, h1, h2⟩ := runS_right budget k (h.decide hd) (by rw [follow_n', decide_n hd, hn]) (by omega) (by omega)
          exact ⟨a, h1, h2⟩
        | none =>
          simp only [hd]
          have hf : s.free = none := by
            unfold Sv.decide at hd
            exact Option.map_eq_none_iff.1 hd
          obtain ⟨m1, m2, m3⟩ := h.model hf
          exact ⟨_, rfl, ⟨by simp, by simp only; omega, by simp, by simp, fun _ => ⟨rfl, m1, by rw [m2, hn], m3⟩, by simp⟩⟩
theorem search_right {n : Nat} {cs : List (List Int)} (h : litsOk n cs) (budget : Nat) : runS budget (budget + 1) (Sv.start n cs).begin.1 (Sv.start n cs).begin.2 0 = some (searchF n cs budget) ∧ RightA n cs budget (searchF n cs budget) := by
  obtain ⟨h1, h2⟩ := begin_srch h
  obtain ⟨a, h3, h4⟩ := runS_right budget (budget + 1) h1 h2 (by omega) (by omega)
  have : searchF n cs budget = a := by rw [searchF, h3]; rfl
  rw [this]
  exact ⟨h3, h4⟩
/-- With more budget a decided answer stays. -/
theorem runS_more {b b' : Nat} (hb : b ≤ b') : ∀ (k k' : Nat) {s : Sv} {w : Option Nat} {t : Nat} {a : AnsD}, k ≤ k' → t ≤ b → runS b k s w t = some a → a.code ≠ 3 → t + k = b + 1 → runS b' k' s w t = some a
  | 0, _, s, w, t, a, _, _, h, _, _ => by cases h
  | k + 1, 0, s, w, t, a, hk, _, _, _, _ => by omega
  | k + 1, k' + 1, s, w, t, a, hk, ht, h, hc, hkb => by
    rw [runS] at h ⊢
    unfold turnS at h ⊢
    by_cases h1 : t = b ∧ (w.isSome = true ∨ (0 : Int) ∈ s.val.drop 1)
    · rw [if_pos h1] at h
      simp only [Option.some.injEq] at h
      subst h
      exact absurd rfl hc
    · rw [if_neg h1] at h
      have h2 : ¬ (t = b' ∧ (w.isSome = true ∨ (0 : Int) ∈ s.val.drop 1)) := fun e => h1 ⟨by omega, e.2⟩
      rw [if_neg h2]
      cases w with
      | some m =>
        have hlt : t < b := by
          rcases Nat.lt_or_ge t b with h1' | h1'
          · exact h1'
          · exact absurd ⟨by omega, .inl rfl⟩ h1
        cases hl : (s.learn m).1 with
        | true =>
          simp only [hl, if_true] at h ⊢
          exact runS_more hb k k' (by omega) (by omega) h hc (by omega)
        | false =>
          simp only [hl, Bool.false_eq_true, if_false] at h ⊢
          exact h
      | none =>
        cases hd : s.decide with
        | some s' =>
          simp only [hd] at h ⊢
          rcases Nat.lt_or_ge t b with h1' | h1'
          · exact runS_more hb k k' (by omega) (by omega) h hc (by omega)
          · obtain rfl : k = 0 := by omega
            cases h
        | none =>
          simp only [hd] at h ⊢
          exact h
theorem search_more {n : Nat} {cs : List (List Int)} (h : litsOk n cs) {b b' : Nat} (hb : b ≤ b') (hc : (searchF n cs b).code ≠ 3) : searchF n cs b' = searchF n cs b := by
  have h1 := (search_right h b).1
  have h2 := (search_right h b').1
  rw [runS_more hb (b + 1) (b' + 1) (by omega) (by omega) h1 hc (by omega)] at h2
  injection h2 with h2
  exact h2.symm
end Go.Proofs.Ytafeehlpmdligaa
