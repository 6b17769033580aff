/- Part 2 of the texts that stand behind this law. -/
import Derived.WalkKit
import Derived.WalkSpells
import Derived.WalkLawsBesides
import Derived.Orders
import Derived.Test.YtjjmedgibcffhaaZe1
/- What holds of the pairs of a list of events: plain lemmas. -/
namespace Go.Proofs.Ytjjmedgibcffhaa
open Go.RowKit Go.MapKept
set_option linter.unusedSimpArgs false
set_option linter.unusedVariables false

def ev (l : List EventD) (i : Nat) : EventD := l.getD i ⟨0, 0, []⟩
theorem ev_eq {l : List EventD} {i : Nat} (h : i < l.length) : ev l i = l[i] := by simp [ev, List.getD_eq_getElem?_getD, List.getElem?_eq_getElem h]

structure FInv (l : List EventD) (j : Nat) (ps : List PairD) (op : Int → Option Nat) : Prop where
  frm : ∀ (k : Nat) (h : k < ps.length), ps[k].from_ < j ∧ (ev l ps[k].from_).kind = 0
  to_ : ∀ (k : Nat) (h : k < ps.length), (ps[k].to_ = -1 ∧ ps[k].status = 3) ∨ ∃ t : Nat, ps[k].to_ = (t : Int) ∧ ps[k].from_ < t ∧ t < j ∧ (ev l t).kind = ps[k].status ∧ ps[k].status ≠ 0 ∧ (ev l t).proc = (ev l ps[k].from_).proc ∧ matchB (ev l ps[k].from_) (ev l t) = true
  inc : ∀ (k k' : Nat) (h : k < ps.length) (h' : k' < ps.length), k < k' → ps[k].from_ < ps[k'].from_
  tos : ∀ (k k' : Nat) (h : k < ps.length) (h' : k' < ps.length), k ≠ k' → ps[k].to_ = ps[k'].to_ → ps[k].to_ = -1
  all : ∀ i, i < j → ∃ (k : Nat) (h : k < ps.length), ps[k].from_ = i ∨ ps[k].to_ = (i : Int)
  opn : ∀ (q : Int) (k : Nat), op q = some k ↔ ∃ h : k < ps.length, ps[k].to_ = -1 ∧ (ev l ps[k].from_).proc = q
  seq : ∀ (k k' : Nat) (h : k < ps.length) (h' : k' < ps.length), k < k' → (ev l ps[k].from_).proc = (ev l ps[k'].from_).proc → 0 ≤ ps[k].to_ ∧ ps[k].to_ < (ps[k'].from_ : Int)

theorem FInv.zero (l : List EventD) : FInv l 0 [] (fun _ => none) :=
  ⟨by simp, by simp, by simp, by simp, by simp, by simp, by simp⟩

theorem pairStep_push {l : List EventD} {j : Nat} {e : EventD} {ps ps' : List PairD} {op op' : Int → Option Nat} (h : op e.proc = none) (hs : pairStep l j e ps op = some (ps', op')) :
    e.kind = 0 ∧ ps' = ps ++ [⟨j, -1, 3⟩] ∧ op' = upd op e.proc (some ps.length) := by
  unfold pairStep at hs
  rw [h] at hs
  simp only at hs
  split at hs
  · rename_i hk
    simp only [Option.some.injEq, Prod.mk.injEq] at hs
    exact ⟨hk, hs.1.symm, hs.2.symm⟩
  · cases hs
theorem pairStep_set {l : List EventD} {j k : Nat} {e : EventD} {ps ps' : List PairD} {op op' : Int → Option Nat} (h : op e.proc = some k) (hs : pairStep l j e ps op = some (ps', op')) :
    e.kind ≠ 0 ∧ ∃ (hk : k < ps.length) (hf : ps[k].from_ < l.length), matchB l[ps[k].from_] e = true ∧ ps' = ps.set k ⟨ps[k].from_, j, e.kind⟩ ∧ op' = upd op e.proc none := by
  unfold pairStep at hs
  rw [h] at hs
  simp only at hs
  split at hs
  · cases hs
  · rename_i hk
    refine ⟨hk, ?_⟩
    split at hs
    · cases hs
    · rename_i p hp
      obtain ⟨hkl, rfl⟩ := List.getElem?_eq_some_iff.1 hp
      split at hs
      · cases hs
      · rename_i b hb
        obtain ⟨hfl, rfl⟩ := List.getElem?_eq_some_iff.1 hb
        split at hs
        · rename_i hm
          simp only [Option.some.injEq, Prod.mk.injEq] at hs
          exact ⟨hkl, hfl, hm, hs.1.symm, hs.2.symm⟩
        · cases hs

theorem FInv.push {l : List EventD} {j : Nat} {ps : List PairD} {op : Int → Option Nat} (h : FInv l j ps op) (hj : j < l.length) (ho : op (ev l j).proc = none) (hk : (ev l j).kind = 0) :
    FInv l (j + 1) (ps ++ [⟨j, -1, 3⟩]) (upd op (ev l j).proc (some ps.length)) := by
  have hlen : (ps ++ [(⟨j, -1, 3⟩ : PairD)]).length = ps.length + 1 := by simp
  have old : ∀ (k : Nat) (hk : k < ps.length), (ps ++ [(⟨j, -1, 3⟩ : PairD)])[k]'(by simp; omega) = ps[k] := fun k hk => List.getElem_append_left hk
  have new : (ps ++ [(⟨j, -1, 3⟩ : PairD)])[ps.length]'(by simp) = ⟨j, -1, 3⟩ := by simp
  have cas : ∀ k, k < (ps ++ [(⟨j, -1, 3⟩ : PairD)]).length → k < ps.length ∨ k = ps.length := fun k hk => by simp at hk; omega
  constructor
  · intro k hk'
    rcases cas k hk' with h1 | rfl
    · rw [old k h1]; have := h.frm k h1; exact ⟨by omega, this.2⟩
    · rw [new]; exact ⟨by simp, hk⟩
  · intro k hk'
    rcases cas k hk' with h1 | rfl
    · rw [old k h1]
      rcases h.to_ k h1 with h2 | ⟨t, a, b, c, d⟩
      · exact .inl h2
      · exact .inr ⟨t, a, b, by omega, d⟩
    · rw [new]; exact .inl ⟨rfl, rfl⟩
  · intro k k' h1 h2 hlt
    rcases cas k' h2 with h3 | rfl
    · rw [old k (by omega), old k' h3]; exact h.inc k k' _ _ hlt
    · rw [old k (by omega), new]; exact (h.frm k (by omega)).1
  · intro k k' h1 h2 hne he
    rcases cas k h1 with h3 | rfl
    · rw [old k h3] at he ⊢
      rcases cas k' h2 with h4 | rfl
      · rw [old k' h4] at he; exact h.tos k k' _ _ hne he
      · rw [new] at he; exact he
    · rw [new]
  · intro i hi
    rcases Nat.lt_or_ge i j with h1 | h1
    · obtain ⟨k, hk', h2⟩ := h.all i h1
      exact ⟨k, by simp; omega, by rw [old k hk']; exact h2⟩
    · exact ⟨ps.length, by simp, by rw [new]; left; show j = i; omega⟩
  · intro q k
    by_cases hq : q = (ev l j).proc
    · subst hq
      rw [upd_same]
      constructor
      · intro e
        injection e with e
        subst e
        exact ⟨by simp, by rw [new], by rw [new]⟩
      · rintro ⟨hk', h1, h2⟩
        rcases cas k hk' with h3 | rfl
        · rw [old k h3] at h1 h2
          have := (h.opn (ev l j).proc k).2 ⟨h3, h1, h2⟩
          rw [ho] at this
          cases this
        · rfl
    · rw [upd_ne _ _ hq, h.opn]
      constructor
      · rintro ⟨hk', h1, h2⟩
        exact ⟨by simp; omega, by rw [old k hk']; exact h1, by rw [old k hk']; exact h2⟩
      · rintro ⟨hk', h1, h2⟩
        rcases cas k hk' with h3 | rfl
        · rw [old k h3] at h1 h2; exact ⟨h3, h1, h2⟩
        · rw [new] at h2; exact absurd h2.symm hq
  · intro k k' h1 h2 hlt hp
    rcases cas k' h2 with h3 | rfl
    · rw [old k (by omega), old k' h3] at hp ⊢; exact h.seq k k' _ _ hlt hp
    · rw [old k (by omega), new] at hp ⊢
      rcases h.to_ k (by omega) with ⟨h4, _⟩ | ⟨t, a, b, c, _⟩
      · have := (h.opn _ k).2 ⟨by omega, h4, hp⟩
        rw [ho] at this
        cases this
      · rw [a]; exact ⟨by omega, by show (t : Int) < (j : Int); omega⟩

theorem FInv.set {l : List EventD} {j k : Nat} {ps : List PairD} {op : Int → Option Nat} (h : FInv l j ps op) (hj : j < l.length) (ho : op (ev l j).proc = some k) (hk : (ev l j).kind ≠ 0) (hkp : k < ps.length) (hm : matchB (ev l ps[k].from_) (ev l j) = true) :
    FInv l (j + 1) (ps.set k ⟨ps[k].from_, j, (ev l j).kind⟩) (upd op (ev l j).proc none) := by
  obtain ⟨_, hto, hpr⟩ := (h.opn _ k).1 ho
  have hlen : (ps.set k ⟨ps[k].from_, j, (ev l j).kind⟩).length = ps.length := by simp
  have old : ∀ (i : Nat) (hi : i < ps.length), i ≠ k → (ps.set k ⟨ps[k].from_, j, (ev l j).kind⟩)[i]'(by simpa using hi) = ps[i] := fun i hi hne => by rw [List.getElem_set, if_neg (fun e => hne e.symm)]
  have new : (ps.set k ⟨ps[k].from_, j, (ev l j).kind⟩)[k]'(by simpa using hkp) = ⟨ps[k].from_, j, (ev l j).kind⟩ := by simp
  have fr : ∀ (i : Nat) (hi : i < ps.length), ((ps.set k ⟨ps[k].from_, j, (ev l j).kind⟩)[i]'(by simpa using hi)).from_ = ps[i].from_ := fun i hi => by
    by_cases e : i = k
    · subst e; rw [new]
    · rw [old i hi e]
  have tlt : ∀ (i : Nat) (hi : i < ps.length), ps[i].to_ < (j : Int) := fun i hi => by
    rcases h.to_ i hi with ⟨a, _⟩ | ⟨t, a, b, c, _⟩ <;> rw [a] <;> omega
  constructor
  · intro i hi
    have hi' : i < ps.length := by simpa using hi
    rw [fr i hi']
    have := h.frm i hi'
    exact ⟨by omega, this.2⟩
  · intro i hi
    have hi' : i < ps.length := by simpa using hi
    by_cases e : i = k
    · subst e
      rw [new]
      exact .inr ⟨j, rfl, (h.frm i hi').1, by omega, rfl, hk, hpr.symm, hm⟩
    · rw [old i hi' e]
      rcases h.to_ i hi' with h2 | ⟨t, a, b, c, d⟩
      · exact .inl h2
      · exact .inr ⟨t, a, b, by omega, d⟩
  · intro i i' h1 h2 hlt
    rw [fr i (by simpa using h1), fr i' (by simpa using h2)]
    exact h.inc i i' _ _ hlt
  · intro i i' h1 h2 hne he
    have h1' : i < ps.length := by simpa using h1
    have h2' : i' < ps.length := by simpa using h2
    by_cases e : i = k
    · subst e
      rw [new, old i' h2' (fun e => hne e.symm)] at he
      have := tlt i' h2'
      have he' : (j : Int) = ps[i'].to_ := he
      omega
    · rw [old i h1' e] at he ⊢
      by_cases e' : i' = k
      · subst e'
        rw [new] at he
        have := tlt i h1'
        have he' : ps[i].to_ = (j : Int) := he
        omega
      · rw [old i' h2' e'] at he
        exact h.tos i i' _ _ hne he
  · intro i hi
    rcases Nat.lt_or_ge i j with h1 | h1
    · obtain ⟨k', hk', h2⟩ := h.all i h1
      refine ⟨k', by simpa using hk', ?_⟩
      rcases h2 with h2 | h2
      · left; rw [fr k' hk']; exact h2
      · by_cases e : k' = k
        · subst e; rw [hto] at h2; omega
        · right; rw [old k' hk' e]; exact h2
    · exact ⟨k, by simpa using hkp, by rw [new]; right; show (j : Int) = i; omega⟩
  · intro q i
    by_cases hq : q = (ev l j).proc
    · subst hq
      rw [upd_same]
      constructor
      · intro e; cases e
      · rintro ⟨hi, h1, h2⟩
        have hi' : i < ps.length := by simpa using hi
        by_cases e : i = k
        · subst e; rw [new] at h1; have h1' : (j : Int) = -1 := h1; omega
        · rw [old i hi' e] at h1 h2
          have := (h.opn (ev l j).proc i).2 ⟨hi', h1, h2⟩
          rw [ho] at this
          injection this with this
          exact absurd this.symm e
    · rw [upd_ne _ _ hq, h.opn]
      constructor
      · rintro ⟨hi, h1, h2⟩
        have e : i ≠ k := by rintro rfl; exact hq (h2.symm.trans hpr)
        exact ⟨by simpa using hi, by rw [old i hi e]; exact h1, by rw [old i hi e]; exact h2⟩
      · rintro ⟨hi, h1, h2⟩
        have hi' : i < ps.length := by simpa using hi
        by_cases e : i = k
        · subst e; rw [new] at h1; have h1' : (j : Int) = -1 := h1; omega
        · rw [old i hi' e] at h1 h2
          exact ⟨hi', h1, h2⟩
  · intro i i' h1 h2 hlt hp
    have h1' : i < ps.length := by simpa using h1
    have h2' : i' < ps.length := by simpa using h2
    rw [fr i h1', fr i' h2'] at hp
    rw [fr i' h2']
    have hs := h.seq i i' h1' h2' hlt hp
    by_cases e : i = k
    · subst e
      rw [hto] at hs
      omega
    · rw [old i h1' e]
      exact hs

theorem pairsSt_finv (l : List EventD) : ∀ j ps op, pairsSt l j = .ok (ps, op) → j ≤ l.length → FInv l j ps op := by
  intro j
  induction j with
  | zero =>
    intro ps op h _
    simp only [pairsSt, Except.ok.injEq, Prod.mk.injEq] at h
    obtain ⟨rfl, rfl⟩ := h
    exact FInv.zero l
  | succ j ih =>
    intro ps' op' h hj
    have hjl : j < l.length := by omega
    cases hst : pairsSt l j with
    | error e => simp only [pairsSt, hst] at h; cases h
    | ok s =>
      obtain ⟨ps, op⟩ := s
      have hi := ih ps op hst (by omega)
      rw [pairsSt_succ hst hjl] at h
      cases hs : pairStep l j l[j] ps op with
      | none => rw [hs] at h; cases h
      | some s' =>
        rw [hs] at h
        injection h with h
        subst h
        have e := ev_eq hjl
        cases ho : op l[j].proc with
        | none =>
          obtain ⟨h1, rfl, rfl⟩ := pairStep_push ho hs
          rw [← e] at ho h1 ⊢
          exact hi.push hjl ho h1
        | some k =>
          obtain ⟨h1, hk, hf, hm, rfl, rfl⟩ := pairStep_set ho hs
          rw [← ev_eq hf] at hm
          rw [← e] at ho h1 hm ⊢
          exact hi.set hjl ho h1 hk hm
theorem pairsF_finv {l : List EventD} {ps : List PairD} (h : pairsF l = .ok ps) : ∃ op, FInv l l.length ps op := by
  obtain ⟨_, op, hst⟩ := pairsF_ok h
  exact ⟨op, pairsSt_finv l _ _ _ hst (Nat.le_refl _)⟩
end Go.Proofs.Ytjjmedgibcffhaa
/- ref03.call, sound, Check, walked: the same as wire's. -/
namespace Go.Proofs.Ytjjmedgibcffhaa
open Go.RowKit
set_option linter.unusedSimpArgs false
set_option linter.unusedVariables false

theorem toList_loop_len (bs : ByteArray) : ∀ (n i : Nat) (r : List UInt8), bs.size - i = n → (ByteArray.toList.loop bs i r).length = r.length + n := by
  intro n
  induction n with
  | zero =>
    intro i r h
    unfold ByteArray.toList.loop
    rw [if_neg (by omega)]
    simp
  | succ n ih =>
    intro i r h
    unfold ByteArray.toList.loop
    rw [if_pos (by omega), ih (i + 1) _ (by omega)]
    simp
    omega
theorem toList_len (bs : ByteArray) : bs.toList.length = bs.size := by
  unfold ByteArray.toList
  rw [toList_loop_len bs bs.size 0 [] (by omega)]
  simp
theorem key_empty (bs : ByteArray) : bs.toList.isEmpty = decide (bs.size < 1) := by
  rw [Bool.eq_iff_iff, List.isEmpty_iff, ← List.length_eq_zero_iff, toList_len, decide_eq_true_eq]
  omega
/-- callOk, as the reference spells it. -/
theorem callOk_ref (k : Int) (key : ByteArray) (arg : Int) (got : Bool) (vals : List Int) (ev : Int) :
    callOk ⟨k, key, arg, got, vals⟩ ev = if k < 1 ∨ 8 < k ∨ key.size < 1 ∨ 32 < key.size then false
      else if k ≤ 4 then !got && decide (vals.length = 0) && (decide (k ≠ 4) || (decide (-1048576 ≤ arg) && decide (arg ≤ 1048576)))
      else if arg ≠ 0 ∨ got ≠ (ev == 1) ∨ (got = false ∧ 0 < vals.length) then false
      else if k = 5 then decide (vals.length ≤ 1)
      else if k = 8 then !got || decide (vals.length = 1)
      else if k = 7 then risesB vals && decide (vals.length ≤ 64)
      else decide (vals.length ≤ 64) := by
  unfold callOk
  simp only [key_empty, Bool.decide_and]
  have hr : vals.length = 0 → risesB vals = true := fun h => risesB_true fun i hi => by omega
  generalize risesB vals = R at hr ⊢
  generalize vals.length = n at hr ⊢
  generalize key.size = m
  generalize (ev == 1) = E
  by_cases h1 : k < 1
  · simp [h1]
  by_cases h2 : 8 < k
  · simp [h1, h2]
  by_cases h3 : k ≤ 4
  · cases got <;> grind
  have h6 : shapeF k = if k = 5 then (0, 1) else if k = 8 then (1, 1) else (0, 64) := rfl
  by_cases h5 : k = 5
  · subst h5; rw [h6]; cases got <;> cases E <;> grind
  by_cases h8 : k = 8
  · subst h8; rw [h6]; cases got <;> cases E <;> grind
  rw [h6, if_neg h5, if_neg h8]
  by_cases h7 : k = 7
  · subst h7; cases got <;> cases E <;> cases R <;> grind
  cases got <;> cases E <;> grind

set_option maxHeartbeats 4000000 in
set_option maxRecDepth 100000 in
theorem refcall_calls (x : CallD) (F : Nat → Prop) (ev : Int) (w : World) (cs : List Value) (hx : Ty.call.K F w cs x) (hF : ∀ b, F b → b < w.heap.size) :
    Calls Try.prog 70 #[.agg cs.toArray, .int .i64 ev] w fun e w' => e = .returned (.bool (callOk x ev)) ∧ Below w.heap.size w w' := by
  obtain ⟨k, key, arg, got, vals⟩ := x
  obtain ⟨A, c, rfl, hv⟩ := hx
  dsimp only at hv ⊢
  have HV := hide hv
  clear hv
  go_enter Try.func70, Try.ntmps70
  go_wp2
  any_goals (go_ret; exact ⟨ret_bool (by rw [callOk_ref]; grind), (Below.refl _ _).alloc (Nat.le_refl _) _⟩)
  all_goals (
    obtain rfl : k = 7 := by simpa using (by assumption : (k == 7) = true)
    obtain rfl : arg = 0 := by assumption
    rename got = (ev == 1) => hgot
    have HG := hide hgot
    clear hgot
    have hlen := HV.out.len_le (by decide)
    have hemp : Hid (got = false → vals.length = 0) := by
      intro hg
      have := HG.out
      rw [hg] at this
      first | omega | (exfalso; simp_all)
    go_loopw [5] (fun i wr => ∃ j : Nat, (j < vals.length ∨ j = 0) ∧ i = .int .i64 (j + 1) ∧ Hid (∀ i, i < j → vals.getD i 0 < vals.getD (i + 1) 0) ∧ Hid (∃ n g, wr = World.drewN (w.alloc (.cells #[.int .i64 7, .string key, .int .i64 0, .bool g, .slice A vals.length c] 67)) n)) (fun i _ => vals.length - (intOf i).toNat)
    case atStart => exact ⟨0, .inr rfl, rfl, fun i hi => absurd hi (by omega), 0, _, rfl⟩
    case round =>
      obtain ⟨j, hj, rfl, hr, hw⟩ := hrel
      obtain ⟨n, g, rfl⟩ := hw.out
      clear hw
      by_cases hlt : j + 1 < vals.length
      · first | (exfalso; omega; done) | (
          obtain ⟨b, o, rfl, hFb, hc0⟩ := HV.out.int_at j (by omega)
          obtain ⟨b', o', hA', -, hc1⟩ := HV.out.int_at (j + 1) hlt
          obtain ⟨rfl, rfl⟩ : b' = b ∧ o' = o := by simpa using hA'.symm
          have hbb := hF _ hFb
          clear hA'
          go_wp2
          go_quiet (fail)
          go_wp2
          · have hle : vals[j + 1] ≤ vals[j] := by assumption
            have hR := hide (risesB_false hlt hle)
            go_ret
            exact ⟨ret_bool (by rw [callOk_ref, hR.out]; simp), (show Below _ _ _ by repeat (first | assumption | (with_reducible exact Below.refl _ _) | (with_reducible apply below_drewN) | (with_reducible apply Below.drew) | (with_reducible refine Below.alloc2_ ?_ (by first | assumption | exact Nat.le_refl _ | omega | (simp; done) | (simp; omega)) _) | (with_reducible refine Below.setCell ?_ (by first | assumption | exact Nat.le_refl _ | omega | (simp; done) | (simp; omega)) _) | (with_reducible refine Below.then2_ ?_ (by assumption) (by first | assumption | exact Nat.le_refl _ | omega | (simp; done) | (simp; omega))) | exact Below.drew (by assumption) | exact Below.drew (Below.refl _ _)))⟩
          · have hle : vals[j] < vals[j + 1] := by assumption
            have hnx : Hid (∀ i, i < j + 1 → vals.getD i 0 < vals.getD (i + 1) 0) := by
              intro i hi
              rcases Nat.lt_or_ge i j with hij | hij
              · exact hr.out i hij
              · obtain rfl : i = j := by omega
                simpa [List.getD_eq_getElem?_getD, List.getElem?_eq_getElem hlt, List.getElem?_eq_getElem (show i < vals.length by omega)] using hle
            first | exact ⟨⟨j + 1, .inl hlt, by go_num, hnx, _, _, rfl⟩, by simp [intOf]; omega⟩ | exact ⟨by ((repeat apply Exists.intro); refine ⟨?_, rfl⟩; exact ⟨j + 1, .inl hlt, by go_num, hnx, _, _, rfl⟩), by simp [intOf]; omega⟩)
      · have hR : Hid (risesB vals = true) := risesB_true fun i hi => hr.out i (by omega)
        go_wp2
        go_ret
        exact ⟨ret_bool (by rw [callOk_ref, hR.out]; have h1 := HG.out; have h2 := hemp.out; grind), (show Below _ _ _ by repeat (first | assumption | (with_reducible exact Below.refl _ _) | (with_reducible apply below_drewN) | (with_reducible apply Below.drew) | (with_reducible refine Below.alloc2_ ?_ (by first | assumption | exact Nat.le_refl _ | omega | (simp; done) | (simp; omega)) _) | (with_reducible refine Below.setCell ?_ (by first | assumption | exact Nat.le_refl _ | omega | (simp; done) | (simp; omega)) _) | (with_reducible refine Below.then2_ ?_ (by assumption) (by first | assumption | exact Nat.le_refl _ | omega | (simp; done) | (simp; omega))) | exact Below.drew (by assumption) | exact Below.drew (Below.refl _ _)))⟩)
end Go.Proofs.Ytjjmedgibcffhaa
/- ref03.sound, ref03.Check, walked: they tell what wire.Check tells. -/
namespace Go.Proofs.Ytjjmedgibcffhaa
open Go.RowKit
set_option linter.unusedSimpArgs false
set_option linter.unusedVariables false

set_option maxHeartbeats 2000000 in
set_option maxRecDepth 100000 in
theorem refsound_calls (x : EventD) (F : Nat → Prop) (w : World) (cs : List Value) (hx : Ty.event.K F w cs x) (hF : ∀ b, F b → b < w.heap.size) :
    Calls Try.prog 63 #[.agg cs.toArray] w fun e w' => e = .returned (.bool (eventOk x)) ∧ Below w.heap.size w w' := by
  obtain ⟨A, c, rfl, hv⟩ := hx
  have HV := hide hv
  clear hv
  have HF := hide hF
  clear hF
  have hlen := HV.out.len_le (by decide)
  go_enter Try.func63, Try.ntmps63
  go_wp2
  any_goals (go_ret; exact ⟨ret_bool (by grind [eventOk]), (show Below _ _ _ by repeat (first | assumption | (with_reducible exact Below.refl _ _) | (with_reducible apply below_drewN) | (with_reducible apply Below.drew) | (with_reducible refine Below.alloc2_ ?_ (by first | assumption | exact Nat.le_refl _ | omega | (simp; done) | (simp; omega)) _) | (with_reducible refine Below.setCell ?_ (by first | assumption | exact Nat.le_refl _ | omega | (simp; done) | (simp; omega)) _) | (with_reducible refine Below.then2_ ?_ (by assumption) (by first | assumption | exact Nat.le_refl _ | omega | (simp; done) | (simp; omega))) | exact Below.drew (by assumption) | exact Below.drew (Below.refl _ _)))⟩)
  obtain ⟨W, hW⟩ : ∃ W, W = w.alloc (.cells #[.int .i64 x.proc, .int .i64 x.kind, .slice A x.calls.length c] 24) := ⟨_, rfl⟩
  rw [← hW]
  have hbW : Below w.heap.size w W := by rw [hW]; exact (show Below _ _ _ by repeat (first | assumption | (with_reducible exact Below.refl _ _) | (with_reducible apply below_drewN) | (with_reducible apply Below.drew) | (with_reducible refine Below.alloc2_ ?_ (by first | assumption | exact Nat.le_refl _ | omega | (simp; done) | (simp; omega)) _) | (with_reducible refine Below.setCell ?_ (by first | assumption | exact Nat.le_refl _ | omega | (simp; done) | (simp; omega)) _) | (with_reducible refine Below.then2_ ?_ (by assumption) (by first | assumption | exact Nat.le_refl _ | omega | (simp; done) | (simp; omega))) | exact Below.drew (by assumption) | exact Below.drew (Below.refl _ _)))
  have hzW : w.heap.size < W.heap.size := by rw [hW]; simp
  have hW1 : W.cell? ⟨w.heap.size, 1, none⟩ = some (.int .i64 x.kind) := by rw [hW]; simp [go_sem]
  have hW2 : W.cell? ⟨w.heap.size, 2, none⟩ = some (.slice A x.calls.length c) := by rw [hW]; simp [go_sem]
  clear hW
  go_loopw [3] (fun i wr => ∃ j : Nat, j ≤ x.calls.length ∧ i = .int .i64 j ∧ Hid (∀ i (hi : i < x.calls.length), i < j → callOk x.calls[i] x.kind = true) ∧ Hid (Below W.heap.size W wr)) (fun i _ => x.calls.length - (intOf i).toNat)
  case atStart => exact ⟨0, by omega, rfl, fun i _ hi => absurd hi (by omega), Below.refl _ _⟩
  case round =>
    obtain ⟨j, hj, rfl, hr, hb⟩ := hrel
    have hb := hb.out
    have hsz := hb.size
    have hbw : Below w.heap.size w wr := hbW.trans (hb.mono (by omega))
    have hq := (bcell hb).1
    have hw1 := (hq _ 1 hzW).trans hW1
    have hw2 := (hq _ 2 hzW).trans hW2
    clear hq
    have hzr : w.heap.size < wr.heap.size := by omega
    have H1 := hide hW1
    have H2 := hide hW2
    clear hW1 hW2
    by_cases hlt : j < x.calls.length
    · obtain ⟨b, o, A', c', rfl, hFb, hv, hc0, hc1, hc2, hc3, hc4⟩ := (HV.out.mono (w' := wr) (fun b hb' => hbw.block b (HF.out b hb'))).call_at j hlt
      have HV' := hide hv
      clear hv
      have hbb : b < wr.heap.size := by have := HF.out b hFb; omega
      have hj0 : (0 : Int) ≤ (j : Int) := Int.natCast_nonneg _
      have hj1 : (j : Int) < (x.calls.length : Int) := by omega
      have hS : ∀ W', Below wr.heap.size wr W' → W'.cell? ⟨w.heap.size, 1, none⟩ = some (.int .i64 x.kind) ∧ W'.cell? ⟨w.heap.size, 2, none⟩ = some (.slice (some ⟨b, o, none⟩) x.calls.length c) ∧
          W'.cell? ⟨b, o + j * 5, none⟩ = some (.int .i64 x.calls[j].kind) ∧ W'.cell? ⟨b, o + j * 5 + 1, none⟩ = some (.string x.calls[j].key) ∧ W'.cell? ⟨b, o + j * 5 + 2, none⟩ = some (.int .i64 x.calls[j].arg) ∧ W'.cell? ⟨b, o + j * 5 + 3, none⟩ = some (.bool x.calls[j].got) ∧ W'.cell? ⟨b, o + j * 5 + 4, none⟩ = some (.slice A' x.calls[j].vals.length c') ∧ Below wr.heap.size wr W' := by
        intro W' hB
        have hW := (bcell hB).1
        refine ⟨?_, ?_, ?_, ?_, ?_, ?_, ?_, hB⟩ <;> (rw [hW _ _ (by omega)]; assumption)
      have HS := hide hS
      have hS0 := hS wr (Below.refl _ _)
      clear hS
      have hC : ∀ W', Below wr.heap.size wr W' → Calls Try.prog 70 #[.agg #[.int .i64 x.calls[j].kind, .string x.calls[j].key, .int .i64 x.calls[j].arg, .bool x.calls[j].got, .slice A' x.calls[j].vals.length c'], .int .i64 x.kind] W' fun e w2 => e = .returned (.bool (callOk x.calls[j] x.kind)) ∧ Below W'.heap.size W' w2 :=
        fun W' hB => refcall_calls x.calls[j] F x.kind W' _ ⟨A', c', rfl, HV'.out.mono (fun b hb' => hB.block b (by have := HF.out b hb'; omega))⟩ (fun b hb' => by have := HF.out b hb'; have := hB.size; omega)
      have HC := hide hC
      clear hC
      go_wp2
      go_region_held3 (fun W => W.cell? ⟨w.heap.size, 1, none⟩ = some (.int .i64 x.kind) ∧ W.cell? ⟨w.heap.size, 2, none⟩ = some (.slice (some ⟨b, o, none⟩) x.calls.length c) ∧
          W.cell? ⟨b, o + j * 5, none⟩ = some (.int .i64 x.calls[j].kind) ∧ W.cell? ⟨b, o + j * 5 + 1, none⟩ = some (.string x.calls[j].key) ∧ W.cell? ⟨b, o + j * 5 + 2, none⟩ = some (.int .i64 x.calls[j].arg) ∧ W.cell? ⟨b, o + j * 5 + 3, none⟩ = some (.bool x.calls[j].got) ∧ W.cell? ⟨b, o + j * 5 + 4, none⟩ = some (.slice A' x.calls[j].vals.length c') ∧ Below wr.heap.size wr W)
        (first | exact HS.out _ (Below.drew (Below.refl _ _)) | (go_split_ands; exact HS.out _ (show Below _ _ _ by repeat (first | assumption | (with_reducible exact Below.refl _ _) | (with_reducible apply below_drewN) | (with_reducible apply Below.drew) | (with_reducible refine Below.alloc2_ ?_ (by first | assumption | exact Nat.le_refl _ | omega | (simp; done) | (simp; omega)) _) | (with_reducible refine Below.setCell ?_ (by first | assumption | exact Nat.le_refl _ | omega | (simp; done) | (simp; omega)) _) | (with_reducible refine Below.then2_ ?_ (by assumption) (by first | assumption | exact Nat.le_refl _ | omega | (simp; done) | (simp; omega))) | exact Below.drew (by assumption) | exact Below.drew (Below.refl _ _)))))
        ((go_at_call 70; go_split_ands; (with_reducible refine (HC.out _ (by assumption)).mono ?_); rintro e w3 ⟨rfl, hb3⟩))
      go_wp2
      · have hp : callOk x.calls[j] x.kind = false := by first | assumption | simpa using (by assumption : (!callOk x.calls[j] x.kind) = true)
        go_ret
        exact ⟨ret_bool (by
          have hall : (x.calls.all fun y => callOk y x.kind) = false := by
            rw [List.all_eq_false]
            exact ⟨_, List.getElem_mem hlt, by rw [hp]; simp⟩
          grind [eventOk]), by go_split_ands; exact hbw.trans (Below.mono (by assumption) (by omega))⟩
      · have hp : callOk x.calls[j] x.kind = true := by first | assumption | simpa using (by assumption : (!callOk x.calls[j] x.kind) = false)
        have hn : Hid (∀ i (hi : i < x.calls.length), i < j + 1 → callOk x.calls[i] x.kind = true) := by
          intro i h1 h2
          rcases Nat.lt_or_ge i j with hij | hij
          · exact hr.out i h1 hij
          · obtain rfl : i = j := by omega
            exact hp
        first | exact ⟨⟨j + 1, by omega, by go_num, hn, by go_split_ands; exact hb.trans (Below.mono (by assumption) (by omega))⟩, by simp [intOf]; omega⟩ | exact ⟨by ((repeat apply Exists.intro); refine ⟨?_, rfl⟩; exact ⟨j + 1, by omega, by go_num, hn, by go_split_ands; exact hb.trans (Below.mono (by assumption) (by omega))⟩), by simp [intOf]; omega⟩
    · obtain rfl : j = x.calls.length := by omega
      go_wp2
      go_ret
      exact ⟨ret_bool (by
        have hall : (x.calls.all fun y => callOk y x.kind) = true := by
          rw [List.all_eq_true]
          intro y hy
          obtain ⟨i, hi, rfl⟩ := List.getElem_of_mem hy
          exact hr.out i hi hi
        grind [eventOk]), (show Below _ _ _ by repeat (first | assumption | (with_reducible exact Below.refl _ _) | (with_reducible apply below_drewN) | (with_reducible apply Below.drew) | (with_reducible refine Below.alloc2_ ?_ (by first | assumption | exact Nat.le_refl _ | omega | (simp; done) | (simp; omega)) _) | (with_reducible refine Below.setCell ?_ (by first | assumption | exact Nat.le_refl _ | omega | (simp; done) | (simp; omega)) _) | (with_reducible refine Below.then2_ ?_ (by assumption) (by first | assumption | exact Nat.le_refl _ | omega | (simp; done) | (simp; omega))) | exact Below.drew (by assumption) | exact Below.drew (Below.refl _ _)))⟩

set_option maxHeartbeats 1000000 in
theorem refcheck_calls (xs : List EventD) (F : Nat → Prop) (w : World) (A : Option Addr) (c : Nat) (hx : Ty.event.Sl F w A xs) (hF : ∀ b, F b → b < w.heap.size) :
    Calls Try.prog 45 #[.slice A xs.length c] w fun e w' => e = .returned (.int .i64 (errnoOf (listOk xs))) ∧ Below w.heap.size w w' := by
  have HX := hide hx
  clear hx
  have HF := hide hF
  clear hF
  have hlen := HX.out.len_le (by decide)
  by_cases hl : 256 < xs.length
  · go_enter Try.func45, Try.ntmps45
    go_wp2
    go_ret
    exact ⟨ret_int (listOk_long hl).symm, Below.refl _ _⟩
  · go_enter Try.func45, Try.ntmps45
    go_wp2
    go_loopw [3] (fun i wr => ∃ j : Nat, j ≤ xs.length ∧ i = .int .i64 j ∧ Hid (∀ i (hi : i < xs.length), i < j → eventOk xs[i] = true) ∧ Hid (Below w.heap.size w wr)) (fun i _ => xs.length - (intOf i).toNat)
    case atStart => exact ⟨0, by omega, rfl, fun i _ hi => absurd hi (by omega), Below.refl _ _⟩
    case round =>
      obtain ⟨j, hj, rfl, hr, hb⟩ := hrel
      have hb := hb.out
      have hsz := hb.size
      by_cases hlt : j < xs.length
      · obtain ⟨b, o, A', c', rfl, hFb, hv, hc0, hc1, hc2⟩ := (HX.out.mono (w' := wr) (fun b hb' => hb.block b (HF.out b hb'))).event_at j hlt
        have HV := hide hv
        clear hv
        have hbb : b < wr.heap.size := by have := HF.out b hFb; omega
        go_wp2_with (go_at_call 63; refine (refsound_calls xs[j] F _ _ ⟨A', c', rfl, HV.out⟩ (fun b hb' => by have := HF.out b hb'; omega)).mono ?_; rintro e w3 ⟨rfl, hb3⟩)
        · have hp : eventOk xs[j] = false := by first | assumption | simpa using (by assumption : (!eventOk xs[j]) = true)
          go_ret
          exact ⟨ret_int (listOk_bad j hlt hp).symm, (show Below _ _ _ by repeat (first | assumption | (with_reducible exact Below.refl _ _) | (with_reducible apply below_drewN) | (with_reducible apply Below.drew) | (with_reducible refine Below.alloc2_ ?_ (by first | assumption | exact Nat.le_refl _ | omega | (simp; done) | (simp; omega)) _) | (with_reducible refine Below.setCell ?_ (by first | assumption | exact Nat.le_refl _ | omega | (simp; done) | (simp; omega)) _) | (with_reducible refine Below.then2_ ?_ (by assumption) (by first | assumption | exact Nat.le_refl _ | omega | (simp; done) | (simp; omega))) | exact Below.drew (by assumption) | exact Below.drew (Below.refl _ _)))⟩
        · have hp : eventOk xs[j] = true := by first | assumption | simpa using (by assumption : (!eventOk xs[j]) = false)
          have hn : Hid (∀ i (hi : i < xs.length), i < j + 1 → eventOk xs[i] = true) := by
            intro i h1 h2
            rcases Nat.lt_or_ge i j with hij | hij
            · exact hr.out i h1 hij
            · obtain rfl : i = j := by omega
              exact hp
          first | exact ⟨⟨j + 1, by omega, by go_num, hn, (show Below _ _ _ by repeat (first | assumption | (with_reducible exact Below.refl _ _) | (with_reducible apply below_drewN) | (with_reducible apply Below.drew) | (with_reducible refine Below.alloc2_ ?_ (by first | assumption | exact Nat.le_refl _ | omega | (simp; done) | (simp; omega)) _) | (with_reducible refine Below.setCell ?_ (by first | assumption | exact Nat.le_refl _ | omega | (simp; done) | (simp; omega)) _) | (with_reducible refine Below.then2_ ?_ (by assumption) (by first | assumption | exact Nat.le_refl _ | omega | (simp; done) | (simp; omega))) | exact Below.drew (by assumption) | exact Below.drew (Below.refl _ _)))⟩, by simp [intOf]; omega⟩ | exact ⟨by ((repeat apply Exists.intro); refine ⟨?_, rfl⟩; exact ⟨j + 1, by omega, by go_num, hn, (show Below _ _ _ by repeat (first | assumption | (with_reducible exact Below.refl _ _) | (with_reducible apply below_drewN) | (with_reducible apply Below.drew) | (with_reducible refine Below.alloc2_ ?_ (by first | assumption | exact Nat.le_refl _ | omega | (simp; done) | (simp; omega)) _) | (with_reducible refine Below.setCell ?_ (by first | assumption | exact Nat.le_refl _ | omega | (simp; done) | (simp; omega)) _) | (with_reducible refine Below.then2_ ?_ (by assumption) (by first | assumption | exact Nat.le_refl _ | omega | (simp; done) | (simp; omega))) | exact Below.drew (by assumption) | exact Below.drew (Below.refl _ _)))⟩), by simp [intOf]; omega⟩
      · go_wp2
        go_ret
        exact ⟨ret_int (listOk_good (by omega) fun i hi => hr.out i hi (by omega)).symm, hb⟩
end Go.Proofs.Ytjjmedgibcffhaa
/- assizeref04.Match, walked. -/
namespace Go.Proofs.Ytjjmedgibcffhaa
open Go.RowKit
set_option linter.unusedSimpArgs false
set_option linter.unusedVariables false

set_option maxHeartbeats 1000000 in
set_option maxRecDepth 100000 in
theorem refMatch_calls (x y : EventD) (F : Nat → Prop) (w : World) (cs ds : List Value) (hx : Ty.event.K F w cs x) (hy : Ty.event.K F w ds y) (hF : ∀ b, F b → b < w.heap.size) :
    Calls Try.prog 18 #[.agg cs.toArray, .agg ds.toArray] w fun e w' => e = .returned (.bool (matchB x y)) ∧ Below w.heap.size w w' := by
  obtain ⟨A, c, rfl, hx⟩ := hx
  obtain ⟨A', c', rfl, hy⟩ := hy
  have HX := hide hx
  clear hx
  have HY := hide hy
  clear hy
  have HF := hide hF
  clear hF
  have hlen := HX.out.len_le (by decide)
  have hlen' := HY.out.len_le (by decide)
  by_cases hp : x.proc = y.proc
  · have hp1 : (x.proc != y.proc) = false := by simp [hp]
    have HP := hide hp
    clear hp
    by_cases hl : x.calls.length = y.calls.length
    · have HL := hide hl
      have hl2 : ((x.calls.length : Int) != (y.calls.length : Int)) = false := by rw [hl]; simp
      have hl1 : x.calls.length ≤ y.calls.length := by omega
      clear hl
      go_enter Try.func18, Try.ntmps18
      go_wp2
      go_loopw [5] (fun i wr => ∃ j : Nat, j ≤ x.calls.length ∧ i = .int .i64 j ∧ Hid (∀ i (hi : i < x.calls.length) (hi' : i < y.calls.length), i < j → callEq x.calls[i] y.calls[i] = true) ∧ Hid (∃ n, wr = World.drewN ((w.alloc (.cells #[.int .i64 x.proc, .int .i64 x.kind, .slice A x.calls.length c] 24)).alloc (.cells #[.int .i64 y.proc, .int .i64 y.kind, .slice A' y.calls.length c'] 24)) n)) (fun i _ => x.calls.length - (intOf i).toNat)
      case atStart => exact ⟨0, by omega, rfl, fun i _ _ hi => absurd hi (by omega), 0, rfl⟩
      case round =>
        obtain ⟨j, hj, rfl, hr, hw⟩ := hrel
        obtain ⟨n, rfl⟩ := hw.out
        clear hw
        by_cases hlt : j < x.calls.length
        · have hlt' : j < y.calls.length := by omega
          obtain ⟨b, o, Av, cv, rfl, hFb, -, hc0, hc1, hc2, -, -⟩ := HX.out.call_at j hlt
          obtain ⟨b', o', Av', cv', rfl, hFb', -, hd0, hd1, hd2, -, -⟩ := HY.out.call_at j hlt'
          have hbb := HF.out b hFb
          have hbb' := HF.out b' hFb'
          have h0 : (0 : Int) ≤ (j : Int) := Int.natCast_nonneg _
          have h1 : (j : Int) < (x.calls.length : Int) := by omega
          have h2 : (j : Int) < (y.calls.length : Int) := by omega
          by_cases e1 : x.calls[j].kind = y.calls[j].kind
          · have e1' : (x.calls[j].kind != y.calls[j].kind) = false := by simp [e1]
            have E1 := hide e1
            clear e1
            by_cases e2 : x.calls[j].key.toList = y.calls[j].key.toList
            · by_cases e3 : x.calls[j].arg = y.calls[j].arg
              · have e3' : (x.calls[j].arg != y.calls[j].arg) = false := by simp [e3]
                have E3 := hide e3
                have E2 := hide e2
                clear e3
                go_wp2
                go_quiet (fail)
                go_wp2
                have hn : ∀ i (hi : i < x.calls.length) (hi' : i < y.calls.length), i < j + 1 → callEq x.calls[i] y.calls[i] = true := fun i h1 h1' h2 => (by
                  rcases Nat.lt_or_ge i j with hij | hij
                  · exact hr.out i h1 h1' hij
                  · obtain rfl : i = j := by omega
                    simp [callEq, E1.out, E2.out, E3.out])
                first | exact ⟨⟨j + 1, by omega, by go_num, hn, ⟨_, rfl⟩⟩, by simp [intOf]; omega⟩ | exact ⟨by ((repeat apply Exists.intro); refine ⟨?_, rfl⟩; exact ⟨j + 1, by omega, by go_num, hn, ⟨_, rfl⟩⟩), by simp [intOf]; omega⟩
              · have e3' : (x.calls[j].arg != y.calls[j].arg) = true := by simp [e3]
                have E3 := hide e3
                clear e3
                go_wp2
                go_quiet (fail)
                go_wp2
                go_ret
                exact ⟨ret_bool (by rw [matchB, callsEq_bad j hlt hlt' (by simp [callEq, E3.out])]; simp), (show Below _ _ _ by repeat (first | assumption | (with_reducible exact Below.refl _ _) | (with_reducible apply below_drewN) | (with_reducible apply Below.drew) | (with_reducible refine Below.alloc2_ ?_ (by first | assumption | exact Nat.le_refl _ | omega | (simp; done) | (simp; omega)) _) | (with_reducible refine Below.setCell ?_ (by first | assumption | exact Nat.le_refl _ | omega | (simp; done) | (simp; omega)) _) | (with_reducible refine Below.then2_ ?_ (by assumption) (by first | assumption | exact Nat.le_refl _ | omega | (simp; done) | (simp; omega))) | exact Below.drew (by assumption) | exact Below.drew (Below.refl _ _)))⟩
            · have E2 := hide e2
              go_wp2
              go_quiet (fail)
              go_wp2
              go_ret
              exact ⟨ret_bool (by rw [matchB, callsEq_bad j hlt hlt' (by simp [callEq, E2.out])]; simp), (show Below _ _ _ by repeat (first | assumption | (with_reducible exact Below.refl _ _) | (with_reducible apply below_drewN) | (with_reducible apply Below.drew) | (with_reducible refine Below.alloc2_ ?_ (by first | assumption | exact Nat.le_refl _ | omega | (simp; done) | (simp; omega)) _) | (with_reducible refine Below.setCell ?_ (by first | assumption | exact Nat.le_refl _ | omega | (simp; done) | (simp; omega)) _) | (with_reducible refine Below.then2_ ?_ (by assumption) (by first | assumption | exact Nat.le_refl _ | omega | (simp; done) | (simp; omega))) | exact Below.drew (by assumption) | exact Below.drew (Below.refl _ _)))⟩
          · have e1' : (x.calls[j].kind != y.calls[j].kind) = true := by simp [e1]
            have E1 := hide e1
            clear e1
            go_wp2
            go_quiet (fail)
            go_wp2
            go_ret
            exact ⟨ret_bool (by rw [matchB, callsEq_bad j hlt hlt' (by simp [callEq, E1.out])]; simp), (show Below _ _ _ by repeat (first | assumption | (with_reducible exact Below.refl _ _) | (with_reducible apply below_drewN) | (with_reducible apply Below.drew) | (with_reducible refine Below.alloc2_ ?_ (by first | assumption | exact Nat.le_refl _ | omega | (simp; done) | (simp; omega)) _) | (with_reducible refine Below.setCell ?_ (by first | assumption | exact Nat.le_refl _ | omega | (simp; done) | (simp; omega)) _) | (with_reducible refine Below.then2_ ?_ (by assumption) (by first | assumption | exact Nat.le_refl _ | omega | (simp; done) | (simp; omega))) | exact Below.drew (by assumption) | exact Below.drew (Below.refl _ _)))⟩
        · go_wp2
          go_ret
          exact ⟨ret_bool (by rw [matchB, callsEq_good HL.out fun i hi => hr.out i hi (by omega) (by omega)]; simp [HP.out]), (show Below _ _ _ by repeat (first | assumption | (with_reducible exact Below.refl _ _) | (with_reducible apply below_drewN) | (with_reducible apply Below.drew) | (with_reducible refine Below.alloc2_ ?_ (by first | assumption | exact Nat.le_refl _ | omega | (simp; done) | (simp; omega)) _) | (with_reducible refine Below.setCell ?_ (by first | assumption | exact Nat.le_refl _ | omega | (simp; done) | (simp; omega)) _) | (with_reducible refine Below.then2_ ?_ (by assumption) (by first | assumption | exact Nat.le_refl _ | omega | (simp; done) | (simp; omega))) | exact Below.drew (by assumption) | exact Below.drew (Below.refl _ _)))⟩
    · have HL := hide hl
      have hl2 : ((x.calls.length : Int) != (y.calls.length : Int)) = true := by simp; omega
      clear hl
      go_enter Try.func18, Try.ntmps18
      go_wp2
      go_ret
      exact ⟨ret_bool (by rw [matchB, callsEq_len HL.out]; simp), (show Below _ _ _ by repeat (first | assumption | (with_reducible exact Below.refl _ _) | (with_reducible apply below_drewN) | (with_reducible apply Below.drew) | (with_reducible refine Below.alloc2_ ?_ (by first | assumption | exact Nat.le_refl _ | omega | (simp; done) | (simp; omega)) _) | (with_reducible refine Below.setCell ?_ (by first | assumption | exact Nat.le_refl _ | omega | (simp; done) | (simp; omega)) _) | (with_reducible refine Below.then2_ ?_ (by assumption) (by first | assumption | exact Nat.le_refl _ | omega | (simp; done) | (simp; omega))) | exact Below.drew (by assumption) | exact Below.drew (Below.refl _ _)))⟩
  · have hp1 : (x.proc != y.proc) = true := by simp [hp]
    have HP := hide hp
    clear hp
    go_enter Try.func18, Try.ntmps18
    go_wp2
    go_ret
    exact ⟨ret_bool (by simp [matchB, HP.out]), (show Below _ _ _ by repeat (first | assumption | (with_reducible exact Below.refl _ _) | (with_reducible apply below_drewN) | (with_reducible apply Below.drew) | (with_reducible refine Below.alloc2_ ?_ (by first | assumption | exact Nat.le_refl _ | omega | (simp; done) | (simp; omega)) _) | (with_reducible refine Below.setCell ?_ (by first | assumption | exact Nat.le_refl _ | omega | (simp; done) | (simp; omega)) _) | (with_reducible refine Below.then2_ ?_ (by assumption) (by first | assumption | exact Nat.le_refl _ | omega | (simp; done) | (simp; omega))) | exact Below.drew (by assumption) | exact Below.drew (Below.refl _ _)))⟩
end Go.Proofs.Ytjjmedgibcffhaa
/- ref04.Pairs, walked: it answers what pair.Pairs answers. -/
namespace Go.Proofs.Ytjjmedgibcffhaa
open Go.RowKit Go.MapKept
set_option linter.unusedSimpArgs false
set_option linter.unusedVariables false

/-- What holds at the head of a round. -/
structure RRel (l : List EventD) (w : World) (v : Value) (wr : World) (j : Nat) (ps : List PairD) (op : Int → Option Nat) : Prop where
  st : pairsSt l j = .ok (ps, op)
  own : wr.ownsRow w.heap.size 37 3 v ps.length (ps.flatMap encP)
  ne : ∀ k, v.ownBlock = some k → k ≠ w.heap.size
  r : RCells w.heap.size wr
  bel : Below w.heap.size w wr
theorem RRel.same {l : List EventD} {w : World} {v : Value} {wr w3 : World} {j : Nat} {ps : List PairD} {op : Int → Option Nat} (h : RRel l w v wr j ps op) (hk : Keep (fun _ => False) wr w3) : RRel l w v w3 j ps op :=
  ⟨h.st, own_keep h.own hk (fun _ _ => id), h.ne, h.r.keep hk id, Below.keep_ h.bel hk h.bel.size (fun _ => False.elim)⟩
theorem RRel.bad {l : List EventD} {w : World} {v : Value} {wr : World} {j : Nat} {ps : List PairD} {op : Int → Option Nat} (h : RRel l w v wr j ps op) (hok : listOk l = true) (hj : j < l.length)
    (hs : pairStep l j l[j] ps op = none) {w' : World} (hb : Below w.heap.size w w') : PairsPost w (pairsF l) (.returned (.tuple #[.slice none 0 0, .agg #[.int .i64 40, .int .i64 j]])) w' := by
  refine ⟨hb, ?_⟩
  have h1 : pairsSt l (j + 1) = .error j := by rw [pairsSt_succ h.st hj, hs]
  rw [pairsF, if_pos hok, pairsSt_bad h1 l.length (by omega)]
theorem RRel.push {l : List EventD} {w : World} {v v3 : Value} {wr w3 : World} {j : Nat} {ps : List PairD} {op : Int → Option Nat} (h : RRel l w v wr j ps op) (hj : j < l.length)
    (hop : op l[j].proc = none) (hk : l[j].kind = 0)
    (hown : w3.ownsRow w.heap.size 37 3 v3 (ps ++ [(⟨j, -1, 3⟩ : PairD)]).length ((ps ++ [(⟨j, -1, 3⟩ : PairD)]).flatMap encP)) {w2 : World} (hb2 : Below wr.heap.size wr w2) (hk3 : Keep (fun k => v.ownBlock = some k) w2 w3) (hat : v3.ownBlock = v.ownBlock ∨ ∃ b, v3.ownBlock = some b ∧ w2.heap.size ≤ b) :
    ∃ ps' op', RRel l w v3 w3 (j + 1) ps' op' := by
  refine ⟨ps ++ [⟨j, -1, 3⟩], upd op l[j].proc (some ps.length), ?_, hown, ?_, ?_, ?_⟩
  · rw [pairsSt_succ h.st hj]
    simp only [pairStep, hop, hk, if_true]
  · intro k hk'
    rcases hat with hat | ⟨b, hb, hle⟩
    · exact h.ne k (hat ▸ hk')
    · rw [hb] at hk'
      injection hk' with hk'
      have := h.r.lt
      have := hb2.size
      omega
  · exact (h.r.keep (S := fun _ => False) (Keep.of_below hb2) id).keep hk3 (fun e => h.ne _ e rfl)
  · have hs := h.bel.size
    exact Below.keep_ (h.bel.trans (hb2.mono hs)) hk3 (Nat.le_trans hs hb2.size) (fun k hk => (h.own.lt k hk).1)
theorem RRel.set {l : List EventD} {w : World} {wr w2 : World} {j k f g cap : Nat} {ps : List PairD} {op : Int → Option Nat} (h : RRel l w (.slice (some ⟨g, 0, none⟩) ps.length cap) wr j ps op) (hj : j < l.length)
    (hop : op l[j].proc = some k) (hk : ¬ l[j].kind = 0) (hkp : k < ps.length) (hf : f = ps[k].from_) (hfl : f < l.length) (hm : matchB l[f] l[j] = true)
    (hw : w2.heap = ((wr.setCell ⟨g, k * 3 + 1, none⟩ (.int .i64 j)).setCell ⟨g, k * 3 + 2, none⟩ (.int .i64 l[j].kind)).heap) (hw' : Below 0 wr w2) :
    ∃ ps' op', ps'.length = ps.length ∧ RRel l w (.slice (some ⟨g, 0, none⟩) ps.length cap) w2 (j + 1) ps' op' := by
  have hgR := h.ne g rfl
  have hset : ∀ b, b ≠ g → w2.heap[b]? = wr.heap[b]? := by
    intro b hb
    rw [hw]
    rw [Below.heap_setCell _ _ _ _ hb, Below.heap_setCell _ _ _ _ hb]
  have hk2 : Keep (fun i => i = g) wr w2 := ⟨hw'.os, hw'.tape, hw'.output, hw'.size, fun b _ hb => hset b hb⟩
  refine ⟨ps.set k ⟨ps[k].from_, j, l[j].kind⟩, upd op l[j].proc none, by simp, ?_, ?_, h.ne, ?_, ?_⟩
  · rw [pairsSt_succ h.st hj]
    have h1 : ps[k]? = some ps[k] := List.getElem?_eq_getElem hkp
    have h2 : l[ps[k].from_]? = some l[f] := by rw [← hf]; exact List.getElem?_eq_getElem hfl
    simp only [pairStep, hop, hk, if_false, h1, h2, hm, if_true]
  · have e1 := (h.own.stored (k * 3 + 1) (.int .i64 j)).1
    have e2 := (e1.stored (k * 3 + 2) (.int .i64 l[j].kind)).1
    rw [flat_set encP_len ps k 1 ⟨ps[k].from_, j, ps[k].status⟩ _ hkp (by omega) rfl] at e2
    rw [flat_set encP_len _ k 2 ⟨ps[k].from_, j, l[j].kind⟩ _ (by simpa using hkp) (by omega) (by simp [encP])] at e2
    simp only [List.set_set, List.length_set] at e2 ⊢
    obtain ⟨a1, a2⟩ := e2
    refine ⟨a1, ?_⟩
    rcases a2 with ⟨a2, _⟩ | ⟨g', cap', cur, a2, a3, a4, a5⟩
    · cases a2
    · exact .inr ⟨g', cap', cur, a2, a3, by rw [hw]; exact a4, a5⟩
  · exact h.r.keep hk2 (fun e => hgR e.symm)
  · have hs := h.bel.size
    exact Below.keep_ h.bel hk2 hs (fun i hi => by have := (h.own.lt g rfl).1; omega)
/-- What the inner loop holds after m pairs. -/
def openAt (op : Option Nat) (m : Nat) : Int := match op with | some k => if k < m then (k : Int) else -1 | none => -1
theorem openAt_hit {op : Option Nat} {m : Nat} (h : op = some m) : openAt op (m + 1) = m := by subst h; simp [openAt]
theorem openAt_miss {op : Option Nat} {m : Nat} (h : op ≠ some m) : openAt op (m + 1) = openAt op m := by
  unfold openAt
  cases op with
  | none => rfl
  | some k =>
    have : k ≠ m := fun e => h (by rw [e])
    simp only
    by_cases hk : k < m
    · rw [if_pos hk, if_pos (by omega)]
    · rw [if_neg hk, if_neg (by omega)]

set_option maxHeartbeats 4000000 in
set_option maxRecDepth 100000 in
theorem refpairs_calls (xs : List EventD) (F : Nat → Prop) (w : World) (A : Option Addr) (c : Nat) (hx : Ty.event.Sl F w A xs) (hF : ∀ b, F b → b < w.heap.size) :
    Calls Try.prog 21 #[.slice A xs.length c] w (PairsPost w (pairsF xs)) := by
  have HX := hide hx
  clear hx
  have HF := hide hF
  clear hF
  have hC := hide (fun o : Obj => refcheck_calls xs F (w.alloc o) A c (HX.out.mono (SameOn.of_below ((Below.refl _ _).alloc (Nat.le_refl _) _) HF.out)) (fun b hb => by have := HF.out b hb; simp; omega))
  by_cases hok : listOk xs = true
  · have hok' : errnoOf (listOk xs) = 0 := by rw [hok]; rfl
    rw [hok'] at hC
    go_enter Try.func21, Try.ntmps21
    go_wp2_with (go_at_call 45; refine (hC.out _).mono ?_; rintro e w1 ⟨rfl, hb1⟩; obtain ⟨hc1, hf1⟩ := bcell hb1; have hz1 : w.heap.size + 1 ≤ w1.heap.size := by have := hb1.size; simpa using this)
    have hR0 : w1.cell? ⟨w.heap.size, 0, none⟩ = some (.int .i64 0) ∧ w1.cell? ⟨w.heap.size, 1, none⟩ = some (.int .i64 0) ∧ w1.frozen? ⟨w.heap.size, 0, none⟩ = false ∧ w1.frozen? ⟨w.heap.size, 1, none⟩ = false := by
      rw [hc1 _ _ (by simp), hc1 _ _ (by simp), hf1 _ _ (by simp), hf1 _ _ (by simp)]
      simp [go_sem]
    clear hc1 hf1
    have HR0 := hide hR0
    clear hR0
    have hlen : xs.length ≤ 256 := listOk_len hok
    go_loopw [4, 5] (fun v i wr => ∃ (j : Nat), j ≤ xs.length ∧ i = .int .i64 j ∧ Hid (∃ (ps : List PairD) (op : Int → Option Nat), RRel xs w v wr j ps op)) (fun _ i _ => xs.length - (intOf i).toNat)
    case atStart =>
      refine ⟨0, by omega, rfl, [], fun _ => none, rfl, ⟨rfl, .inl ⟨rfl, rfl⟩⟩, fun k hk => by simp [Value.ownBlock] at hk, HR0.out, (show Below _ _ _ by repeat (first | assumption | (with_reducible exact Below.refl _ _) | (with_reducible apply below_drewN) | (with_reducible apply Below.drew) | (with_reducible refine Below.alloc2_ ?_ (by first | assumption | exact Nat.le_refl _ | omega | (simp; done) | (simp; omega)) _) | (with_reducible refine Below.setCell ?_ (by first | assumption | exact Nat.le_refl _ | omega | (simp; done) | (simp; omega)) _) | (with_reducible refine Below.then2_ ?_ (by assumption) (by first | assumption | exact Nat.le_refl _ | omega | (simp; done) | (simp; omega))) | exact Below.drew (by assumption) | exact Below.drew (Below.refl _ _)))⟩
    case round =>
      obtain ⟨j, hj, rfl, hrel⟩ := hrel
      obtain ⟨ps, op, hp⟩ := hrel.out
      have HP := hide hp
      clear hp hrel
      clear HR0
      have hb := HP.out.bel
      have hsz := hb.size
      obtain ⟨A5, c5, rfl⟩ := own_shape HP.out.own
      by_cases hlt : j < xs.length
      · obtain ⟨b, o, A', c', rfl, hFb, hv, hc0, hc1, hc2⟩ := (HX.out.mono (w' := wr) (fun b hb' => hb.block b (HF.out b hb'))).event_at j hlt
        have hbb : b < wr.heap.size := by have := HF.out b hFb; omega
        have HV := hide hv
        clear hv
        have hinv := pairsSt_inv xs j ps op HP.out.st hj
        have hfin := pairsSt_finv xs j ps op HP.out.st hj
        have hpl := hinv.1
        have HINV := hide hinv
        have HFIN := hide hfin
        clear hinv hfin
        have hj0 : (0 : Int) ≤ (j : Int) := Int.natCast_nonneg _
        have hj1 : (j : Int) < (xs.length : Int) := by omega
        go_wp2
        go_loopw [6, 7] (fun kv iv wr2 => ∃ (m : Nat), m ≤ ps.length ∧ iv = .int .i64 m ∧ kv = .int .i64 (openAt (op xs[j].proc) m) ∧ Hid (∃ n, wr2 = World.drewN wr n)) (fun _ i _ => ps.length - (intOf i).toNat)
        case atStart => exact ⟨0, by omega, rfl, by unfold openAt; cases op xs[j].proc <;> simp, 0, rfl⟩
        case round =>
          obtain ⟨m, hm, rfl, rfl, hw⟩ := hrel
          obtain ⟨n, rfl⟩ := hw.out
          clear hw
          by_cases hlm : m < ps.length
          · obtain ⟨g, cap, hA5, hgb, hgw, hcap, hcell, hfro⟩ := own_slice HP.out.own (by omega)
            obtain ⟨rfl, rfl⟩ : A5 = some ⟨g, 0, none⟩ ∧ c5 = cap := by simpa using hA5
            clear hA5
            have hfj := HINV.out.2.2 m hlm
            have hto := HFIN.out.to_ m hlm
            have hopn : op xs[j].proc = some m ↔ ps[m].to_ = -1 ∧ (ev xs ps[m].from_).proc = xs[j].proc := (HFIN.out.opn xs[j].proc m).trans ⟨fun ⟨_, h⟩ => h, fun h => ⟨hlm, h⟩⟩
            obtain ⟨f, hf⟩ : ∃ f, f = ps[m].from_ := ⟨_, rfl⟩
            rw [← hf] at hfj hopn
            have hg0 : wr.cell? ⟨g, m * 3, none⟩ = some (.int .i64 (f : Int)) := by
              rw [hf]
              exact hcell (m * 3) _ (by have := flat_get encP_len ps m 0 hlm (by omega); simpa [encP] using this)
            have hg1 : wr.cell? ⟨g, m * 3 + 1, none⟩ = some (.int .i64 ps[m].to_) := hcell _ _ (by have := flat_get encP_len ps m 1 hlm (by omega); simpa [encP] using this)
            clear hcell hfro hf
            have hfx : f < xs.length := by omega
            rw [ev_eq hfx] at hopn
            obtain ⟨bf, of, Af, cf, hAf, -, hvf, hd0, hd1, hd2⟩ := (HX.out.mono (w' := wr) (fun b hb' => hb.block b (HF.out b hb'))).event_at f (by omega)
            obtain ⟨rfl, rfl⟩ : b = bf ∧ o = of := by simpa using hAf
            clear hAf hvf
            have hf0 : (0 : Int) ≤ (f : Int) := Int.natCast_nonneg _
            have hm0 : (0 : Int) ≤ (m : Int) := Int.natCast_nonneg _
            have hf1 : (f : Int) < (xs.length : Int) := by omega
            have hm1 : (m : Int) < (ps.length : Int) := by omega
            by_cases hopm : op xs[j].proc = some m
            · obtain ⟨h1, h2⟩ := hopn.1 hopm
              have hoa := hide (openAt_hit hopm)
              rw [h1] at hg1
              rw [h2] at hd0
              clear hopn hopm h1 h2 hto
              go_wp2
              go_quiet (fail)
              go_wp2
              first | exact ⟨⟨m + 1, by omega, by go_num, by rw [hoa.out], _, rfl⟩, by simp [intOf]; omega⟩ | exact ⟨by ((repeat apply Exists.intro); refine ⟨?_, rfl⟩; exact ⟨m + 1, by omega, by go_num, by rw [hoa.out], _, rfl⟩), by simp [intOf]; omega⟩
            · have hoa := hide (openAt_miss hopm)
              rcases hto with ⟨h1, -⟩ | ⟨t, h1, -⟩
              · have hne : (xs[f].proc == xs[j].proc) = false := by
                  simp only [beq_eq_false_iff_ne, ne_eq]
                  exact fun e => hopm (hopn.2 ⟨h1, e⟩)
                rw [h1] at hg1
                clear hopn hopm h1
                go_wp2
                go_quiet (fail)
                go_wp2
                first | exact ⟨⟨m + 1, by omega, by go_num, by rw [hoa.out], _, rfl⟩, by simp [intOf]; omega⟩ | exact ⟨by ((repeat apply Exists.intro); refine ⟨?_, rfl⟩; exact ⟨m + 1, by omega, by go_num, by rw [hoa.out], _, rfl⟩), by simp [intOf]; omega⟩
              · have hd : decide ((t : Int) < 0) = false := decide_eq_false (by omega)
                rw [h1] at hg1
                clear hopn hopm h1
                go_wp2
                go_quiet (fail)
                go_wp2
                first | exact ⟨⟨m + 1, by omega, by go_num, by rw [hoa.out], _, rfl⟩, by simp [intOf]; omega⟩ | exact ⟨by ((repeat apply Exists.intro); refine ⟨?_, rfl⟩; exact ⟨m + 1, by omega, by go_num, by rw [hoa.out], _, rfl⟩), by simp [intOf]; omega⟩
          · obtain rfl : m = ps.length := by omega
            cases hop : op xs[j].proc with
            | none =>
              have hoa : openAt none ps.length = -1 := rfl
              rw [hoa]
              clear hoa
              have HOP := hide hop
              clear hop
              by_cases hk : xs[j].kind = 0
              · have hk1 : (xs[j].kind == 0) = true := by simpa using hk
                have HK := hide hk
                clear hk
                go_wp2_with (at_builtin; go_loud (refine wp_append_at (enc := encP) encP_len encP_one (W := wr.drewN n) w.heap.size rfl _ _ 28 37 _ 24 rfl Try.underlying28 info37 rfl (by decide) (by decide) (.slice A5 ps.length c5) ps ⟨j, -1, 3⟩ _ rfl rfl rfl (own_keep (S := fun _ => False) HP.out.own (Keep.of_below (show Below _ _ _ by repeat (first | assumption | (with_reducible exact Below.refl _ _) | (with_reducible apply below_drewN) | (with_reducible apply Below.drew) | (with_reducible refine Below.alloc2_ ?_ (by first | assumption | exact Nat.le_refl _ | omega | (simp; done) | (simp; omega)) _) | (with_reducible refine Below.setCell ?_ (by first | assumption | exact Nat.le_refl _ | omega | (simp; done) | (simp; omega)) _) | (with_reducible refine Below.then2_ ?_ (by assumption) (by first | assumption | exact Nat.le_refl _ | omega | (simp; done) | (simp; omega))) | exact Below.drew (by assumption) | exact Below.drew (Below.refl _ _)))) (fun _ _ => id)) (by simp; omega) (by omega) ?_); intro v3 w3 hown3 hk3 hat3 hs3)
                obtain ⟨ps', op', hp'⟩ := HP.out.push hlt HOP.out HK.out hown3 (w2 := wr.drewN n) (show Below _ _ _ by repeat (first | assumption | (with_reducible exact Below.refl _ _) | (with_reducible apply below_drewN) | (with_reducible apply Below.drew) | (with_reducible refine Below.alloc2_ ?_ (by first | assumption | exact Nat.le_refl _ | omega | (simp; done) | (simp; omega)) _) | (with_reducible refine Below.setCell ?_ (by first | assumption | exact Nat.le_refl _ | omega | (simp; done) | (simp; omega)) _) | (with_reducible refine Below.then2_ ?_ (by assumption) (by first | assumption | exact Nat.le_refl _ | omega | (simp; done) | (simp; omega))) | exact Below.drew (by assumption) | exact Below.drew (Below.refl _ _))) hk3 hat3
                first | exact ⟨⟨j + 1, by omega, by go_num, ⟨ps', op', hp'⟩⟩, by simp [intOf]; omega⟩ | exact ⟨by ((repeat apply Exists.intro); refine ⟨?_, rfl⟩; exact ⟨j + 1, by omega, by go_num, ⟨ps', op', hp'⟩⟩), by simp [intOf]; omega⟩
              · have hk1 : (xs[j].kind == 0) = false := by simpa using hk
                have HK := hide hk
                clear hk
                obtain ⟨hr0, hr1, hr2, hr3⟩ := HP.out.r
                have hrlt := HP.out.r.lt
                go_wp2
                go_quiet (fail)
                go_wp2
                refine bodyPost_ret (v := .tuple #[.slice none 0 0, .agg #[.int .i64 40, .int .i64 j]]) (by simp [results, Try.results21, go_sem, hr0, hr1, hrlt]) rfl (HP.out.bad hok hlt ?_ (show Below _ _ _ by repeat (first | assumption | (with_reducible exact Below.refl _ _) | (with_reducible apply below_drewN) | (with_reducible apply Below.drew) | (with_reducible refine Below.alloc2_ ?_ (by first | assumption | exact Nat.le_refl _ | omega | (simp; done) | (simp; omega)) _) | (with_reducible refine Below.setCell ?_ (by first | assumption | exact Nat.le_refl _ | omega | (simp; done) | (simp; omega)) _) | (with_reducible refine Below.then2_ ?_ (by assumption) (by first | assumption | exact Nat.le_refl _ | omega | (simp; done) | (simp; omega))) | exact Below.drew (by assumption) | exact Below.drew (Below.refl _ _))))
                simp only [pairStep, HOP.out, HK.out, if_false]
            | some k =>
              have hkp := HINV.out.2.1 _ _ hop
              have hoa : openAt (some k) ps.length = (k : Int) := by unfold openAt; simp only; rw [if_pos hkp]
              rw [hoa]
              clear hoa
              have HOP := hide hop
              clear hop
              obtain ⟨hr0, hr1, hr2, hr3⟩ := HP.out.r
              have hrlt := HP.out.r.lt
              have hk0 : (0 : Int) ≤ (k : Int) := Int.natCast_nonneg _
              have hkp1 : (k : Int) < (ps.length : Int) := by omega
              have hdk : decide ((k : Int) < 0) = false := decide_eq_false (by omega)
              by_cases hk : xs[j].kind = 0
              · have hk1 : (xs[j].kind == 0) = true := by simpa using hk
                have HK := hide hk
                clear hk
                go_wp2
                refine bodyPost_ret (v := .tuple #[.slice none 0 0, .agg #[.int .i64 40, .int .i64 j]]) (by simp [results, Try.results21, go_sem, hr0, hr1, hrlt]) rfl (HP.out.bad hok hlt ?_ (show Below _ _ _ by repeat (first | assumption | (with_reducible exact Below.refl _ _) | (with_reducible apply below_drewN) | (with_reducible apply Below.drew) | (with_reducible refine Below.alloc2_ ?_ (by first | assumption | exact Nat.le_refl _ | omega | (simp; done) | (simp; omega)) _) | (with_reducible refine Below.setCell ?_ (by first | assumption | exact Nat.le_refl _ | omega | (simp; done) | (simp; omega)) _) | (with_reducible refine Below.then2_ ?_ (by assumption) (by first | assumption | exact Nat.le_refl _ | omega | (simp; done) | (simp; omega))) | exact Below.drew (by assumption) | exact Below.drew (Below.refl _ _))))
                simp only [pairStep, HOP.out, HK.out, if_true]
              · have hk1 : (xs[j].kind == 0) = false := by simpa using hk
                have HK := hide hk
                clear hk
                obtain ⟨g, cap, hA5, hgb, hgw, hcap, hcell, hfro⟩ := own_slice HP.out.own (by omega)
                obtain ⟨rfl, rfl⟩ : A5 = some ⟨g, 0, none⟩ ∧ c5 = cap := by simpa using hA5
                clear hA5
                have hfj := HINV.out.2.2 k hkp
                obtain ⟨f, hf⟩ : ∃ f, f = ps[k].from_ := ⟨_, rfl⟩
                rw [← hf] at hfj
                have hg0 : wr.cell? ⟨g, k * 3, none⟩ = some (.int .i64 (f : Int)) := by
                  rw [hf]
                  exact hcell (k * 3) _ (by have := flat_get encP_len ps k 0 hkp (by omega); simpa [encP] using this)
                have HF' := hide hf
                clear hf hcell hfro
                obtain ⟨bf, of, Af, cf, hAf, -, hvf, hd0, hd1, hd2⟩ := (HX.out.mono (w' := wr) (fun b hb' => hb.block b (HF.out b hb'))).event_at f (by omega)
                obtain ⟨rfl, rfl⟩ : b = bf ∧ o = of := by simpa using hAf
                clear hAf
                have HVF := hide hvf
                clear hvf
                have hfx : f < xs.length := by omega
                have hf0 : (0 : Int) ≤ (f : Int) := Int.natCast_nonneg _
                have hf1 : (f : Int) < (xs.length : Int) := by omega
                have hS : ∀ W', Below wr.heap.size wr W' → W'.cell? ⟨g, k * 3, none⟩ = some (.int .i64 (f : Int)) ∧ W'.cell? ⟨b, o + f * 3, none⟩ = some (.int .i64 xs[f].proc) ∧ W'.cell? ⟨b, o + f * 3 + 1, none⟩ = some (.int .i64 xs[f].kind) ∧ W'.cell? ⟨b, o + f * 3 + 2, none⟩ = some (.slice Af xs[f].calls.length cf) ∧
                    W'.cell? ⟨b, o + j * 3, none⟩ = some (.int .i64 xs[j].proc) ∧ W'.cell? ⟨b, o + j * 3 + 1, none⟩ = some (.int .i64 xs[j].kind) ∧ W'.cell? ⟨b, o + j * 3 + 2, none⟩ = some (.slice A' xs[j].calls.length c') ∧ Below wr.heap.size wr W' := by
                  intro W' hB
                  have hW := (bcell hB).1
                  refine ⟨?_, ?_, ?_, ?_, ?_, ?_, ?_, hB⟩ <;> (rw [hW _ _ (by omega)]; assumption)
                have HS := hide hS
                have hS0 := hS wr (Below.refl _ _)
                clear hS
                have hC2 : ∀ W', Below wr.heap.size wr W' → Calls Try.prog 18 #[.agg #[.int .i64 xs[f].proc, .int .i64 xs[f].kind, .slice Af xs[f].calls.length cf], .agg #[.int .i64 xs[j].proc, .int .i64 xs[j].kind, .slice A' xs[j].calls.length c']] W' fun e w2 => e = .returned (.bool (matchB xs[f] xs[j])) ∧ Below W'.heap.size W' w2 :=
                  fun W' hB => refMatch_calls xs[f] xs[j] F W' _ _ ⟨Af, cf, rfl, HVF.out.mono (fun b hb' => hB.block b (by have := HF.out b hb'; omega))⟩ ⟨A', c', rfl, HV.out.mono (fun b hb' => hB.block b (by have := HF.out b hb'; omega))⟩ (fun b hb' => by have := HF.out b hb'; have := hB.size; omega)
                have HC := hide hC2
                clear hC2
                by_cases hm : matchB xs[f] xs[j] = true
                · have hm1 : (!matchB xs[f] xs[j]) = false := by simpa using hm
                  have HM := hide hm
                  go_wp2
                  go_region_held3 (fun w' => w'.cell? ⟨g, k * 3, none⟩ = some (.int .i64 (f : Int)) ∧ w'.cell? ⟨b, o + f * 3, none⟩ = some (.int .i64 xs[f].proc) ∧ w'.cell? ⟨b, o + f * 3 + 1, none⟩ = some (.int .i64 xs[f].kind) ∧ w'.cell? ⟨b, o + f * 3 + 2, none⟩ = some (.slice Af xs[f].calls.length cf) ∧
                      w'.cell? ⟨b, o + j * 3, none⟩ = some (.int .i64 xs[j].proc) ∧ w'.cell? ⟨b, o + j * 3 + 1, none⟩ = some (.int .i64 xs[j].kind) ∧ w'.cell? ⟨b, o + j * 3 + 2, none⟩ = some (.slice A' xs[j].calls.length c') ∧ Below wr.heap.size wr w')
                    (first | exact HS.out _ (below_drewN (Below.refl _ _) _) | exact HS.out _ (Below.drew (below_drewN (Below.refl _ _) _)) | exact HS.out _ (Below.drew (Below.refl _ _)) | exact HS.out _ (show Below _ _ _ by repeat (first | assumption | (with_reducible exact Below.refl _ _) | (with_reducible apply below_drewN) | (with_reducible apply Below.drew) | (with_reducible refine Below.alloc2_ ?_ (by first | assumption | exact Nat.le_refl _ | omega | (simp; done) | (simp; omega)) _) | (with_reducible refine Below.setCell ?_ (by first | assumption | exact Nat.le_refl _ | omega | (simp; done) | (simp; omega)) _) | (with_reducible refine Below.then2_ ?_ (by assumption) (by first | assumption | exact Nat.le_refl _ | omega | (simp; done) | (simp; omega))) | exact Below.drew (by assumption) | exact Below.drew (Below.refl _ _))) | (go_split_ands; exact HS.out _ (show Below _ _ _ by repeat (first | assumption | (with_reducible exact Below.refl _ _) | (with_reducible apply below_drewN) | (with_reducible apply Below.drew) | (with_reducible refine Below.alloc2_ ?_ (by first | assumption | exact Nat.le_refl _ | omega | (simp; done) | (simp; omega)) _) | (with_reducible refine Below.setCell ?_ (by first | assumption | exact Nat.le_refl _ | omega | (simp; done) | (simp; omega)) _) | (with_reducible refine Below.then2_ ?_ (by assumption) (by first | assumption | exact Nat.le_refl _ | omega | (simp; done) | (simp; omega))) | exact Below.drew (by assumption) | exact Below.drew (Below.refl _ _)))))
                    ((go_at_call 18; go_split_ands; (with_reducible refine (HC.out _ (by first | assumption | exact below_drewN (Below.refl _ _) _)).mono ?_); rintro e w3 ⟨rfl, hb3⟩))
                  have hbw3 : Below wr.heap.size wr w3 := by first | exact (show Below _ _ _ by repeat (first | assumption | (with_reducible exact Below.refl _ _) | (with_reducible apply below_drewN) | (with_reducible apply Below.drew) | (with_reducible refine Below.alloc2_ ?_ (by first | assumption | exact Nat.le_refl _ | omega | (simp; done) | (simp; omega)) _) | (with_reducible refine Below.setCell ?_ (by first | assumption | exact Nat.le_refl _ | omega | (simp; done) | (simp; omega)) _) | (with_reducible refine Below.then2_ ?_ (by assumption) (by first | assumption | exact Nat.le_refl _ | omega | (simp; done) | (simp; omega))) | exact Below.drew (by assumption) | exact Below.drew (Below.refl _ _))) | (go_split_ands; exact (show Below _ _ _ by repeat (first | assumption | (with_reducible exact Below.refl _ _) | (with_reducible apply below_drewN) | (with_reducible apply Below.drew) | (with_reducible refine Below.alloc2_ ?_ (by first | assumption | exact Nat.le_refl _ | omega | (simp; done) | (simp; omega)) _) | (with_reducible refine Below.setCell ?_ (by first | assumption | exact Nat.le_refl _ | omega | (simp; done) | (simp; omega)) _) | (with_reducible refine Below.then2_ ?_ (by assumption) (by first | assumption | exact Nat.le_refl _ | omega | (simp; done) | (simp; omega))) | exact Below.drew (by assumption) | exact Below.drew (Below.refl _ _))))
                  have hk3 : Keep (fun _ => False) wr w3 := Keep.of_below hbw3
                  have HP3 := hide (HP.out.same hk3)
                  have hz3 := hbw3.size
                  obtain ⟨g', cap', hA5, -, hgw3, -, hcell, hfro⟩ := own_slice HP3.out.own (by omega)
                  obtain ⟨rfl, rfl⟩ : g = g' ∧ c5 = cap' := by simpa using hA5
                  clear hA5
                  have hg1 : w3.cell? ⟨g, k * 3 + 1, none⟩ = some (.int .i64 ps[k].to_) := hcell _ _ (by have := flat_get encP_len ps k 1 hkp (by omega); simpa [encP] using this)
                  have hg2 : w3.cell? ⟨g, k * 3 + 2, none⟩ = some (.int .i64 ps[k].status) := hcell _ _ (by have := flat_get encP_len ps k 2 hkp (by omega); simpa [encP] using this)
                  have hfr1 := hfro (k * 3 + 1)
                  have hfr2 := hfro (k * 3 + 2)
                  obtain ⟨-, -, -, -, e0, e1, e2, -⟩ := HS.out w3 hbw3
                  have hgb2 : b ≠ g := by
                    have := HF.out b hFb
                    omega
                  have hgb3 : g ≠ b := Ne.symm hgb2
                  clear hcell hfro
                  go_wp2
                  obtain ⟨ps', op', hl', hp'⟩ := HP3.out.set hlt HOP.out HK.out hkp HF'.out hfx HM.out (w2 := (w3.setCell ⟨g, k * 3 + 1, none⟩ (.int .i64 j)).setCell ⟨g, k * 3 + 2, none⟩ (.int .i64 xs[j].kind)) rfl (show Below _ _ _ by repeat (first | assumption | (with_reducible exact Below.refl _ _) | (with_reducible apply below_drewN) | (with_reducible apply Below.drew) | (with_reducible refine Below.alloc2_ ?_ (by first | assumption | exact Nat.le_refl _ | omega | (simp; done) | (simp; omega)) _) | (with_reducible refine Below.setCell ?_ (by first | assumption | exact Nat.le_refl _ | omega | (simp; done) | (simp; omega)) _) | (with_reducible refine Below.then2_ ?_ (by assumption) (by first | assumption | exact Nat.le_refl _ | omega | (simp; done) | (simp; omega))) | exact Below.drew (by assumption) | exact Below.drew (Below.refl _ _)))
                  rw [← hl'] at hp'
                  first | exact ⟨⟨j + 1, by omega, by go_num, ⟨ps', op', by rw [← hl']; exact hp'⟩⟩, by simp [intOf]; omega⟩ | exact ⟨by ((repeat apply Exists.intro); refine ⟨?_, rfl⟩; exact ⟨j + 1, by omega, by go_num, ⟨ps', op', by rw [← hl']; exact hp'⟩⟩), by simp [intOf]; omega⟩
                · have hm1 : (!matchB xs[f] xs[j]) = true := by simpa using hm
                  have HM := hide hm
                  go_wp2
                  go_region_held3 (fun w' => w'.cell? ⟨g, k * 3, none⟩ = some (.int .i64 (f : Int)) ∧ w'.cell? ⟨b, o + f * 3, none⟩ = some (.int .i64 xs[f].proc) ∧ w'.cell? ⟨b, o + f * 3 + 1, none⟩ = some (.int .i64 xs[f].kind) ∧ w'.cell? ⟨b, o + f * 3 + 2, none⟩ = some (.slice Af xs[f].calls.length cf) ∧
                      w'.cell? ⟨b, o + j * 3, none⟩ = some (.int .i64 xs[j].proc) ∧ w'.cell? ⟨b, o + j * 3 + 1, none⟩ = some (.int .i64 xs[j].kind) ∧ w'.cell? ⟨b, o + j * 3 + 2, none⟩ = some (.slice A' xs[j].calls.length c') ∧ Below wr.heap.size wr w')
                    (first | exact HS.out _ (below_drewN (Below.refl _ _) _) | exact HS.out _ (Below.drew (below_drewN (Below.refl _ _) _)) | exact HS.out _ (Below.drew (Below.refl _ _)) | exact HS.out _ (show Below _ _ _ by repeat (first | assumption | (with_reducible exact Below.refl _ _) | (with_reducible apply below_drewN) | (with_reducible apply Below.drew) | (with_reducible refine Below.alloc2_ ?_ (by first | assumption | exact Nat.le_refl _ | omega | (simp; done) | (simp; omega)) _) | (with_reducible refine Below.setCell ?_ (by first | assumption | exact Nat.le_refl _ | omega | (simp; done) | (simp; omega)) _) | (with_reducible refine Below.then2_ ?_ (by assumption) (by first | assumption | exact Nat.le_refl _ | omega | (simp; done) | (simp; omega))) | exact Below.drew (by assumption) | exact Below.drew (Below.refl _ _))) | (go_split_ands; exact HS.out _ (show Below _ _ _ by repeat (first | assumption | (with_reducible exact Below.refl _ _) | (with_reducible apply below_drewN) | (with_reducible apply Below.drew) | (with_reducible refine Below.alloc2_ ?_ (by first | assumption | exact Nat.le_refl _ | omega | (simp; done) | (simp; omega)) _) | (with_reducible refine Below.setCell ?_ (by first | assumption | exact Nat.le_refl _ | omega | (simp; done) | (simp; omega)) _) | (with_reducible refine Below.then2_ ?_ (by assumption) (by first | assumption | exact Nat.le_refl _ | omega | (simp; done) | (simp; omega))) | exact Below.drew (by assumption) | exact Below.drew (Below.refl _ _)))))
                    ((go_at_call 18; go_split_ands; (with_reducible refine (HC.out _ (by first | assumption | exact below_drewN (Below.refl _ _) _)).mono ?_); rintro e w3 ⟨rfl, hb3⟩))
                  have hbw3 : Below wr.heap.size wr w3 := by first | exact (show Below _ _ _ by repeat (first | assumption | (with_reducible exact Below.refl _ _) | (with_reducible apply below_drewN) | (with_reducible apply Below.drew) | (with_reducible refine Below.alloc2_ ?_ (by first | assumption | exact Nat.le_refl _ | omega | (simp; done) | (simp; omega)) _) | (with_reducible refine Below.setCell ?_ (by first | assumption | exact Nat.le_refl _ | omega | (simp; done) | (simp; omega)) _) | (with_reducible refine Below.then2_ ?_ (by assumption) (by first | assumption | exact Nat.le_refl _ | omega | (simp; done) | (simp; omega))) | exact Below.drew (by assumption) | exact Below.drew (Below.refl _ _))) | (go_split_ands; exact (show Below _ _ _ by repeat (first | assumption | (with_reducible exact Below.refl _ _) | (with_reducible apply below_drewN) | (with_reducible apply Below.drew) | (with_reducible refine Below.alloc2_ ?_ (by first | assumption | exact Nat.le_refl _ | omega | (simp; done) | (simp; omega)) _) | (with_reducible refine Below.setCell ?_ (by first | assumption | exact Nat.le_refl _ | omega | (simp; done) | (simp; omega)) _) | (with_reducible refine Below.then2_ ?_ (by assumption) (by first | assumption | exact Nat.le_refl _ | omega | (simp; done) | (simp; omega))) | exact Below.drew (by assumption) | exact Below.drew (Below.refl _ _))))
                  have hk3 : Keep (fun _ => False) wr w3 := Keep.of_below hbw3
                  obtain ⟨hr0', hr1', hr2', hr3'⟩ := HP.out.r.keep hk3 id
                  have hrlt' := (HP.out.r.keep hk3 id).lt
                  go_wp2
                  refine bodyPost_ret (v := .tuple #[.slice none 0 0, .agg #[.int .i64 40, .int .i64 j]]) (by simp [results, Try.results21, go_sem, hr0', hr1', hrlt']) rfl (HP.out.bad hok hlt ?_ (show Below _ _ _ by repeat (first | assumption | (with_reducible exact Below.refl _ _) | (with_reducible apply below_drewN) | (with_reducible apply Below.drew) | (with_reducible refine Below.alloc2_ ?_ (by first | assumption | exact Nat.le_refl _ | omega | (simp; done) | (simp; omega)) _) | (with_reducible refine Below.setCell ?_ (by first | assumption | exact Nat.le_refl _ | omega | (simp; done) | (simp; omega)) _) | (with_reducible refine Below.then2_ ?_ (by assumption) (by first | assumption | exact Nat.le_refl _ | omega | (simp; done) | (simp; omega))) | exact Below.drew (by assumption) | exact Below.drew (Below.refl _ _))))
                  have h1 : ps[k]? = some ps[k] := List.getElem?_eq_getElem hkp
                  have h2 : xs[ps[k].from_]? = some xs[f] := by rw [← HF'.out]; exact List.getElem?_eq_getElem hfx
                  simp only [pairStep, HOP.out, HK.out, h1, h2]
                  rw [if_neg (by exact id), if_neg HM.out]
      · obtain rfl : j = xs.length := by omega
        obtain ⟨hr0, hr1, hr2, hr3⟩ := HP.out.r
        have hrlt := HP.out.r.lt
        go_wp2
        refine bodyPost_ret (v := .tuple #[.slice A5 ps.length c5, .agg #[.int .i64 0, .int .i64 0]]) (by simp [results, Try.results21, go_sem, hr0, hr1, hrlt]) rfl ⟨(show Below _ _ _ by repeat (first | assumption | (with_reducible exact Below.refl _ _) | (with_reducible apply below_drewN) | (with_reducible apply Below.drew) | (with_reducible refine Below.alloc2_ ?_ (by first | assumption | exact Nat.le_refl _ | omega | (simp; done) | (simp; omega)) _) | (with_reducible refine Below.setCell ?_ (by first | assumption | exact Nat.le_refl _ | omega | (simp; done) | (simp; omega)) _) | (with_reducible refine Below.then2_ ?_ (by assumption) (by first | assumption | exact Nat.le_refl _ | omega | (simp; done) | (simp; omega))) | exact Below.drew (by assumption) | exact Below.drew (Below.refl _ _))), ?_⟩
        rw [pairsF, if_pos hok, HP.out.st]
        refine ⟨_, rfl, ?_⟩
        exact ownsRow_setCell_other (ownsRow_setCell_other HP.out.own (fun e => HP.out.ne _ e rfl) _) (fun e => HP.out.ne _ e rfl) _
  · have hok' : errnoOf (listOk xs) = 1 := by unfold errnoOf; rw [if_neg hok]
    rw [hok'] at hC
    go_enter Try.func21, Try.ntmps21
    go_wp2_with (go_at_call 45; refine (hC.out _).mono ?_; rintro e w1 ⟨rfl, hb1⟩; obtain ⟨hc1, hf1⟩ := bcell hb1; have hz1 : w.heap.size + 1 ≤ w1.heap.size := by have := hb1.size; simpa using this)
    refine bodyPost_ret (v := .tuple #[.slice none 0 0, .agg #[.int .i64 1, .int .i64 0]]) (by simp [results, Try.results21, go_sem, hc1, hf1]) rfl ⟨?_, ?_⟩
    · exact (show Below _ _ _ by repeat (first | assumption | (with_reducible exact Below.refl _ _) | (with_reducible apply below_drewN) | (with_reducible apply Below.drew) | (with_reducible refine Below.alloc2_ ?_ (by first | assumption | exact Nat.le_refl _ | omega | (simp; done) | (simp; omega)) _) | (with_reducible refine Below.setCell ?_ (by first | assumption | exact Nat.le_refl _ | omega | (simp; done) | (simp; omega)) _) | (with_reducible refine Below.then2_ ?_ (by assumption) (by first | assumption | exact Nat.le_refl _ | omega | (simp; done) | (simp; omega))) | exact Below.drew (by assumption) | exact Below.drew (Below.refl _ _)))
    · rw [pairsF, if_neg hok]
end Go.Proofs.Ytjjmedgibcffhaa
/- Abstract states of a walk: pure data, values and blocks, and what each stands for in memory. Plain lemmas over any program. -/
namespace Go.Proofs.Ytjjmedgibcffhaa.M
open Go.RowKit
set_option linter.unusedVariables false
set_option linter.unusedSimpArgs false

/-- Pure data: it lies in memory that nobody writes. A struct is the row of its cells. -/
inductive D where
  | int (k : IntKind) (n : Int)
  | bool (b : Bool)
  | str (s : ByteArray)
  | sl (xs : List D)
  | agg (xs : List D)
  | nil

def D.cells : D → List D
  | .agg xs => xs
  | x => [x]

/-- What pure data stands for, through the blocks of F. -/
inductive RD (F : Nat → Prop) (w : World) : D → Value → Prop
  | int (k : IntKind) (n : Int) : RD F w (.int k n) (.int k n)
  | bool (b : Bool) : RD F w (.bool b) (.bool b)
  | str (s : ByteArray) : RD F w (.str s) (.string s)
  | slNil (a : Option Addr) (c : Nat) : RD F w (.sl []) (.slice a 0 c)
  | sl (xs : List D) (b o c sz : Nat) (u : Nat → Nat → Value) (hF : F b) (hc : xs.length ≤ c)
      (h1 : ∀ (i : Nat) (x : D), xs[i]? = some x → x.cells.length = sz)
      (h2 : ∀ (i j : Nat) (x y : D), xs[i]? = some x → x.cells[j]? = some y → w.cell? ⟨b, o + i * sz + j, none⟩ = some (u i j))
      (h3 : ∀ (i j : Nat) (x y : D), xs[i]? = some x → x.cells[j]? = some y → RD F w y (u i j)) : RD F w (.sl xs) (.slice (some ⟨b, o, none⟩) xs.length c)
  | agg (xs : List D) (vs : Array Value) (hl : vs.size = xs.length) (h : ∀ (j : Nat) (y : D), xs[j]? = some y → RD F w y (vs.getD j undef)) : RD F w (.agg xs) (.agg vs)
  | nil : RD F w .nil (.slice none 0 0)

theorem cell_congr {w w' : World} {b : Nat} (h : w'.heap[b]? = w.heap[b]?) (o : Nat) : w'.cell? ⟨b, o, none⟩ = w.cell? ⟨b, o, none⟩ := by
  unfold World.cell?
  rw [h]

theorem RD.mono {F F' : Nat → Prop} {w w' : World} (hF : ∀ b, F b → F' b) (hk : ∀ b, F b → w'.heap[b]? = w.heap[b]?) {x : D} {v : Value} (h : RD F w x v) : RD F' w' x v := by
  induction h with
  | int k n => exact .int k n
  | bool b => exact .bool b
  | str s => exact .str s
  | slNil a c => exact .slNil a c
  | sl xs b o c sz u h0 hc h1 h2 h3 ih => exact .sl xs b o c sz u (hF b h0) hc h1 (fun i j x y hx hy => by rw [cell_congr (hk b h0)]; exact h2 i j x y hx hy) ih
  | agg xs vs hl h ih => exact .agg xs vs hl ih
  | nil => exact .nil

/-- Values of slots and cells. undef: nothing is known. nil, e0: slices without room. ptr: into a block by its name (struct or variable). eptr: into element i of a row. rptr: into pure data, its cells from there on. ms: elements o to o + n of a row by its name. -/
inductive V where
  | undef
  | d (x : D)
  | nil
  | e0
  | ptr (nm o : Nat)
  | eptr (nm i o : Nat)
  | rptr (cs : List D)
  | ms (nm sz o n : Nat)
  | map (nm : Nat)
  | fn (f : FuncId) (cs : List V)
  | agg (xs : List V)
  | tup (xs : List V)
deriving Inhabited

/-- Where a block lies: its number (none: no block yet), where it begins, how many cells an element takes, how many elements it has room for. -/
structure Rf where
  blk : Option Nat
  off : Nat
  sz : Nat
  tot : Nat

/-- Ghost state: where named blocks lie, which names have been used, which blocks hold pure data. -/
structure Gh where
  ρ : Nat → Rf
  U : Nat → Prop
  F : Nat → Prop

inductive RV (g : Gh) (w : World) : V → Value → Prop
  | undef (v : Value) : RV g w .undef v
  | d {x : D} {v : Value} (h : RD g.F w x v) : RV g w (.d x) v
  | nil : RV g w .nil (.slice none 0 0)
  | e0 (a : Option Addr) : RV g w .e0 (.slice a 0 0)
  | ptr (nm o b : Nat) (hU : g.U nm) (hb : (g.ρ nm).blk = some b) : RV g w (.ptr nm o) (.pointer (some ⟨b, o, none⟩))
  | eptr (nm i o b p : Nat) (hU : g.U nm) (hb : (g.ρ nm).blk = some b) (hp : p = (g.ρ nm).off + i * (g.ρ nm).sz + o) : RV g w (.eptr nm i o) (.pointer (some ⟨b, p, none⟩))
  | rptr (cs : List D) (b o : Nat) (u : Nat → Value) (hF : g.F b) (h2 : ∀ (j : Nat) (y : D), cs[j]? = some y → w.cell? ⟨b, o + j, none⟩ = some (u j)) (h3 : ∀ (j : Nat) (y : D), cs[j]? = some y → RD g.F w y (u j)) : RV g w (.rptr cs) (.pointer (some ⟨b, o, none⟩))
  | ms (nm sz o n b p c : Nat) (hU : g.U nm) (hb : (g.ρ nm).blk = some b) (hs : (g.ρ nm).sz = sz) (hp : p = (g.ρ nm).off + o * sz) (hn : n ≤ c) (hc : o + c ≤ (g.ρ nm).tot) : RV g w (.ms nm sz o n) (.slice (some ⟨b, p, none⟩) n c)
  | msZero (nm sz o : Nat) (a : Option Addr) (hU : g.U nm) : RV g w (.ms nm sz o 0) (.slice a 0 0)
  | map (nm b : Nat) (hU : g.U nm) (hb : (g.ρ nm).blk = some b) : RV g w (.map nm) (.map (some b))
  | fn (f : FuncId) (cs : List V) (vs : Array Value) (hl : vs.size = cs.length) (h : ∀ (j : Nat) (y : V), cs[j]? = some y → RV g w y (vs.getD j undef)) : RV g w (.fn f cs) (.func (.func f) #[] vs)
  | agg (xs : List V) (vs : Array Value) (hl : vs.size = xs.length) (h : ∀ (j : Nat) (y : V), xs[j]? = some y → RV g w y (vs.getD j undef)) : RV g w (.agg xs) (.agg vs)
  | tup (xs : List V) (vs : Array Value) (hl : vs.size = xs.length) (h : ∀ (j : Nat) (y : V), xs[j]? = some y → RV g w y (vs.getD j undef)) : RV g w (.tup xs) (.tuple vs)

/-- A later ghost state and world: what is pure stays as it is. -/
structure Ext (g : Gh) (w : World) (g' : Gh) (w' : World) : Prop where
  used : ∀ n, g.U n → g'.U n
  same : ∀ n, g.U n → g'.ρ n = g.ρ n
  fz : ∀ b, g.F b → g'.F b
  keep : ∀ b, g.F b → w'.heap[b]? = w.heap[b]?
  os : w'.os = w.os
  tape : w'.tape = w.tape
  output : w'.output = w.output
  size : w.heap.size ≤ w'.heap.size

theorem Ext.refl (g : Gh) (w : World) : Ext g w g w := ⟨fun _ h => h, fun _ _ => rfl, fun _ h => h, fun _ _ => rfl, rfl, rfl, rfl, Nat.le_refl _⟩
theorem Ext.trans {g g1 g2 : Gh} {w w1 w2 : World} (a : Ext g w g1 w1) (b : Ext g1 w1 g2 w2) : Ext g w g2 w2 :=
  ⟨fun n h => b.used n (a.used n h), fun n h => (b.same n (a.used n h)).trans (a.same n h), fun i h => b.fz i (a.fz i h), fun i h => (b.keep i (a.fz i h)).trans (a.keep i h), b.os.trans a.os, b.tape.trans a.tape, b.output.trans a.output, Nat.le_trans a.size b.size⟩

theorem RV.mono {g g' : Gh} {w w' : World} (e : Ext g w g' w') {x : V} {v : Value} (h : RV g w x v) : RV g' w' x v := by
  induction h with
  | undef v => exact .undef v
  | d h => exact .d (h.mono e.fz e.keep)
  | nil => exact .nil
  | e0 a => exact .e0 a
  | ptr nm o b hU hb => exact .ptr nm o b (e.used nm hU) (by rw [e.same nm hU]; exact hb)
  | eptr nm i o b p hU hb hp => exact .eptr nm i o b p (e.used nm hU) (by rw [e.same nm hU]; exact hb) (by rw [e.same nm hU]; exact hp)
  | rptr cs b o u hF h2 h3 => exact .rptr cs b o u (e.fz b hF) (fun j y hy => by rw [cell_congr (e.keep b hF)]; exact h2 j y hy) (fun j y hy => (h3 j y hy).mono e.fz e.keep)
  | ms nm sz o n b p c hU hb hs hp hn hc => exact .ms nm sz o n b p c (e.used nm hU) (by rw [e.same nm hU]; exact hb) (by rw [e.same nm hU]; exact hs) (by rw [e.same nm hU]; exact hp) hn (by rw [e.same nm hU]; exact hc)
  | msZero nm sz o a hU => exact .msZero nm sz o a (e.used nm hU)
  | map nm b hU hb => exact .map nm b (e.used nm hU) (by rw [e.same nm hU]; exact hb)
  | fn f cs vs hl h ih => exact .fn f cs vs hl ih
  | agg xs vs hl h ih => exact .agg xs vs hl ih
  | tup xs vs hl h ih => exact .tup xs vs hl ih

/-- The pure parts of a list of values, if all are pure. -/
def allD : List V → Option (List D)
  | [] => some []
  | .d x :: xs => (allD xs).map (x :: ·)
  | _ :: _ => none
theorem allD_map (ds : List D) : allD (ds.map V.d) = some ds := by
  induction ds with
  | nil => rfl
  | cons x xs ih => simp [allD, ih]
theorem allD_some : ∀ {xs : List V} {ds : List D}, allD xs = some ds → xs = ds.map V.d
  | [], ds, h => by simp [allD] at h; subst h; rfl
  | x :: xs, ds, h => by
    cases x <;> simp [allD] at h
    rename_i y
    obtain ⟨es, h1, rfl⟩ := h
    simp [allD_some h1]

def V.cells : V → List V
  | .d (.agg xs) => xs.map V.d
  | .agg xs => xs
  | x => [x]
/-- May it stand in memory, as the row of its cells? -/
def V.firm : V → Bool
  | .undef | .tup _ => false
  | _ => true
def V.one : V → Bool
  | .undef | .tup _ | .agg _ | .d (.agg _) => false
  | _ => true
def mkAgg (xs : List V) : V := match allD xs with | some ds => .d (.agg ds) | none => .agg xs

theorem mkAgg_rv {g : Gh} {w : World} {xs : List V} {vs : Array Value} (hl : vs.size = xs.length) (h : ∀ (j : Nat) (y : V), xs[j]? = some y → RV g w y (vs.getD j undef)) : RV g w (mkAgg xs) (.agg vs) := by
  unfold mkAgg
  split
  · rename_i ds hd
    have := allD_some hd
    subst this
    refine .d (.agg ds vs (by simpa using hl) fun j y hy => ?_)
    have := h j (.d y) (by simp [hy])
    cases this
    assumption
  · exact .agg xs vs hl h

/-- Blocks by name: a variable or struct, a row of elements, a map. -/
inductive KK where
  | int (k : IntKind)
  | str
  | pair (k : IntKind)

inductive Blk where
  | box (cs : List V)
  | row (sz : Nat) (xs : List V)
  | map (kk : KK) (m : D → Option V)

/-- Block b holds a map that reads as f. -/
def MapIn {κ : Type} (enc : κ → Value) (w : World) (b : Nat) (f : κ → Option Value) : Prop :=
  ∃ es clock, w.heap[b]? = some (.map es clock) ∧ (∀ e ∈ es.toList, ∃ k, e.key = enc k) ∧ es.toList.Pairwise (fun x y => x.key ≠ y.key) ∧
    ∀ k v, f k = some v ↔ ∃ e ∈ es.toList, e.key = enc k ∧ e.val = v

inductive OptRV (g : Gh) (w : World) : Option V → Option Value → Prop
  | none : OptRV g w none none
  | some {x : V} {v : Value} (h : RV g w x v) : OptRV g w (some x) (some v)

/-- Pairs of a text and a number as keys. -/
def pairKey (k : IntKind) (p : ByteArray × Int) : Value := .agg #[.string p.1, .int k p.2]

def BlkOK (g : Gh) (w : World) (nm : Nat) : Blk → Prop
  | .box cs => ∃ b vs t, (g.ρ nm).blk = some b ∧ w.heap[b]? = some (.cells vs t (0, 0)) ∧ vs.size = cs.length ∧ ∀ (j : Nat) (y : V), cs[j]? = some y → RV g w y (vs.getD j undef)
  | .row sz xs => (g.ρ nm).sz = sz ∧ xs.length ≤ (g.ρ nm).tot ∧ (∀ (i : Nat) (x : V), xs[i]? = some x → x.cells.length = sz) ∧
      ((g.ρ nm).blk = none ∧ xs = [] ∨ ∃ b vs t, (g.ρ nm).blk = some b ∧ w.heap[b]? = some (.cells vs t (0, 0)) ∧ (g.ρ nm).off + (g.ρ nm).tot * sz ≤ vs.size ∧
        ∀ (i j : Nat) (x y : V), xs[i]? = some x → x.cells[j]? = some y → RV g w y (vs.getD ((g.ρ nm).off + i * sz + j) undef))
  | .map kk m => ∃ b, (g.ρ nm).blk = some b ∧ match kk with
      | .int k => ∃ f, MapIn (Value.int k) w b f ∧ ∀ i, OptRV g w (m (.int k i)) (f i)
      | .str => ∃ f, MapIn Value.string w b f ∧ ∀ s, OptRV g w (m (.str s)) (f s)
      | .pair k => ∃ f, MapIn (pairKey k) w b f ∧ ∀ s i, OptRV g w (m (.agg [.str s, .int k i])) (f (s, i))

theorem OptRV.mono {g g' : Gh} {w w' : World} (e : Ext g w g' w') {x : Option V} {v : Option Value} (h : OptRV g w x v) : OptRV g' w' x v := by
  cases h with
  | none => exact .none
  | some h => exact .some (h.mono e)
theorem MapIn.same {κ : Type} {enc : κ → Value} {w w' : World} {b : Nat} {f : κ → Option Value} (h : MapIn enc w b f) (hs : w'.heap[b]? = w.heap[b]?) : MapIn enc w' b f := by
  obtain ⟨es, clock, hb, r⟩ := h
  exact ⟨es, clock, hs.trans hb, r⟩

theorem BlkOK.mono {g g' : Gh} {w w' : World} {nm : Nat} {k : Blk} (h : BlkOK g w nm k) (e : Ext g w g' w') (hU : g.U nm) (hk : ∀ b, (g.ρ nm).blk = some b → w'.heap[b]? = w.heap[b]?) : BlkOK g' w' nm k := by
  have er := e.same nm hU
  cases k with
  | box cs =>
    obtain ⟨b, vs, t, h1, h2, h3, h4⟩ := h
    exact ⟨b, vs, t, by rw [er]; exact h1, (hk b h1).trans h2, h3, fun j y hy => (h4 j y hy).mono e⟩
  | row sz xs =>
    obtain ⟨h1, h2, h3, h4⟩ := h
    refine ⟨by rw [er]; exact h1, by rw [er]; exact h2, h3, ?_⟩
    rcases h4 with ⟨h4, h5⟩ | ⟨b, vs, t, h4, h5, h6, h7⟩
    · exact .inl ⟨by rw [er]; exact h4, h5⟩
    · exact .inr ⟨b, vs, t, by rw [er]; exact h4, (hk b h4).trans h5, by rw [er]; exact h6, fun i j x y hx hy => by rw [er]; exact (h7 i j x y hx hy).mono e⟩
  | map kk m =>
    obtain ⟨b, h1, h2⟩ := h
    refine ⟨b, by rw [er]; exact h1, ?_⟩
    cases kk with
    | int k => obtain ⟨f, h3, h4⟩ := h2; exact ⟨f, h3.same (hk b h1), fun i => (h4 i).mono e⟩
    | str => obtain ⟨f, h3, h4⟩ := h2; exact ⟨f, h3.same (hk b h1), fun i => (h4 i).mono e⟩
    | pair k => obtain ⟨f, h3, h4⟩ := h2; exact ⟨f, h3.same (hk b h1), fun s i => (h4 s i).mono e⟩

/-- The named blocks H lie in memory, apart from each other and from what is pure. -/
structure RS (g : Gh) (w : World) (H : Nat → Option Blk) : Prop where
  ok : ∀ nm k, H nm = some k → g.U nm ∧ BlkOK g w nm k
  inj : ∀ n m b, (H n).isSome → (H m).isSome → (g.ρ n).blk = some b → (g.ρ m).blk = some b → n = m
  notF : ∀ n b, (H n).isSome → (g.ρ n).blk = some b → ¬ g.F b ∧ b < w.heap.size
  ltF : ∀ b, g.F b → b < w.heap.size

def hset (H : Nat → Option Blk) (nm : Nat) (k : Option Blk) : Nat → Option Blk := fun n => if n = nm then k else H n

/-- Fewer blocks. -/
theorem RS.less {g : Gh} {w : World} {H H' : Nat → Option Blk} (h : RS g w H) (hs : ∀ n k, H' n = some k → H n = some k) : RS g w H' := by
  have hi : ∀ n, (H' n).isSome → (H n).isSome := fun n hn => by
    obtain ⟨k, hk⟩ := Option.isSome_iff_exists.1 hn
    simp [hs n k hk]
  exact ⟨fun n k hk => h.ok n k (hs n k hk), fun n m b hn hm => h.inj n m b (hi n hn) (hi m hm), fun n b hn => h.notF n b (hi n hn), h.ltF⟩

/-- One named block has changed (or come anew). -/
theorem RS.put {g g' : Gh} {w w' : World} {H : Nat → Option Blk} {nm : Nat} {k : Blk} (h : RS g w H) (e : Ext g w g' w')
    (hk : ∀ n b, n ≠ nm → (H n).isSome → (g.ρ n).blk = some b → w'.heap[b]? = w.heap[b]?)
    (hU : g'.U nm) (hok : BlkOK g' w' nm k)
    (hnew : ∀ b, (g'.ρ nm).blk = some b → ¬ g'.F b ∧ b < w'.heap.size ∧ ∀ n, n ≠ nm → (H n).isSome → (g.ρ n).blk ≠ some b)
    (hF : ∀ b, g'.F b → b < w'.heap.size ∧ ∀ n, n ≠ nm → (H n).isSome → (g.ρ n).blk ≠ some b) : RS g' w' (hset H nm (some k)) := by
  have hsome : ∀ n, n ≠ nm → (hset H nm (some k) n).isSome → (H n).isSome := fun n hn h' => by simpa [hset, hn] using h'
  have hU' : ∀ n, (H n).isSome → g.U n := fun n hn => by
    obtain ⟨k', hk'⟩ := Option.isSome_iff_exists.1 hn
    exact (h.ok n k' hk').1
  refine ⟨?_, ?_, ?_, fun b hb => (hF b hb).1⟩
  · intro n k' hk'
    by_cases hn : n = nm
    · subst hn
      simp [hset] at hk'
      subst hk'
      exact ⟨hU, hok⟩
    · simp [hset, hn] at hk'
      have hs : (H n).isSome := by simp [hk']
      exact ⟨e.used n (hU' n hs), (h.ok n k' hk').2.mono e (hU' n hs) (fun b hb => hk n b hn hs hb)⟩
  · intro n m b hn hm hbn hbm
    by_cases h1 : n = nm
    · by_cases h2 : m = nm
      · rw [h1, h2]
      · subst h1
        have hs := hsome m h2 hm
        rw [e.same m (hU' m hs)] at hbm
        exact absurd hbm ((hnew b hbn).2.2 m h2 hs)
    · by_cases h2 : m = nm
      · subst h2
        have hs := hsome n h1 hn
        rw [e.same n (hU' n hs)] at hbn
        exact absurd hbn ((hnew b hbm).2.2 n h1 hs)
      · have hs1 := hsome n h1 hn
        have hs2 := hsome m h2 hm
        rw [e.same n (hU' n hs1)] at hbn
        rw [e.same m (hU' m hs2)] at hbm
        exact h.inj n m b hs1 hs2 hbn hbm
  · intro n b hn hb
    by_cases h1 : n = nm
    · subst h1
      exact ⟨(hnew b hb).1, (hnew b hb).2.1⟩
    · have hs := hsome n h1 hn
      rw [e.same n (hU' n hs)] at hb
      exact ⟨fun hf => (hF b hf).2 n h1 hs hb, Nat.lt_of_lt_of_le (h.notF n b hs hb).2 e.size⟩

/-- Nothing has changed but the ghost state. -/
theorem RS.ext {g g' : Gh} {w w' : World} {H : Nat → Option Blk} (h : RS g w H) (e : Ext g w g' w')
    (hk : ∀ n b, (H n).isSome → (g.ρ n).blk = some b → w'.heap[b]? = w.heap[b]?)
    (hF : ∀ b, g'.F b → b < w'.heap.size ∧ ∀ n, (H n).isSome → (g.ρ n).blk ≠ some b) : RS g' w' H := by
  have hU' : ∀ n, (H n).isSome → g.U n := fun n hn => by
    obtain ⟨k', hk'⟩ := Option.isSome_iff_exists.1 hn
    exact (h.ok n k' hk').1
  refine ⟨fun n k hk' => ?_, fun n m b hn hm hbn hbm => ?_, fun n b hn hb => ?_, fun b hb => (hF b hb).1⟩
  · have hs : (H n).isSome := by simp [hk']
    exact ⟨e.used n (hU' n hs), (h.ok n k hk').2.mono e (hU' n hs) (fun b hb => hk n b hs hb)⟩
  · rw [e.same n (hU' n hn)] at hbn
    rw [e.same m (hU' m hm)] at hbm
    exact h.inj n m b hn hm hbn hbm
  · rw [e.same n (hU' n hn)] at hb
    exact ⟨fun hf => (hF b hf).2 n hn hb, Nat.lt_of_lt_of_le (h.notF n b hn hb).2 e.size⟩

end Go.Proofs.Ytjjmedgibcffhaa.M
/- Operations that touch no memory, on abstract values: what they give, and that the machine's operation gives the same. -/
namespace Go.Proofs.Ytjjmedgibcffhaa.M
open Go.RowKit
set_option linter.unusedVariables false
set_option linter.unusedSimpArgs false

/-- What is known of a type: cells, bytes, is it a struct, its zero. -/
structure TI where
  size : Nat
  bytes : Nat
  agg : Bool
  zero : Value
def tinf (P : Program) (t : TypeId) : Option TI :=
  match P.info? t, P.underlying t with
  | some i, some d => match i.zero with
    | some z => if z.cells.size = i.size then some ⟨i.size, i.bytes, match d with | .struct _ | .array _ _ => true | _ => false, z⟩ else none
    | none => none
  | _, _ => none

section
variable {P : Program} {t : TypeId} {ti : TI}
theorem tinf_spec (h : tinf P t = some ti) : ∃ i d, P.info? t = some i ∧ P.underlying t = some d ∧ i.zero = some ti.zero ∧ ti.zero.cells.size = ti.size ∧ i.size = ti.size ∧ i.bytes = ti.bytes ∧ ti.agg = (match d with | .struct _ | .array _ _ => true | _ => false) := by
  unfold tinf at h
  split at h
  · rename_i i d hi hd
    split at h
    · rename_i z hz
      split at h
      · rename_i hs
        injection h with h
        subst h
        exact ⟨i, d, hi, hd, hz, hs, rfl, rfl, rfl⟩
      · cases h
    · cases h
  · cases h
theorem run_sizeOf' (h : tinf P t = some ti) (w : World) : (sizeOf t).run P w = .ok ti.size w := by
  obtain ⟨i, d, hi, hd, hz, _, hs, _⟩ := tinf_spec h
  simp [sizeOf, typeInfo, hi, hs]
theorem run_isAgg' (h : tinf P t = some ti) (w : World) : (isAgg t).run P w = .ok ti.agg w := by
  obtain ⟨i, d, hi, hd, hz, _, hs, _, ha⟩ := tinf_spec h
  rw [ha]
  cases d <;> simp [isAgg, run_underlying hd]
theorem run_zeroValue' (h : tinf P t = some ti) (w : World) : (zeroValue t).run P w = .ok ti.zero w := by
  obtain ⟨i, d, hi, hd, hz, _, hs, _⟩ := tinf_spec h
  simp [zeroValue, typeInfo, hi, hz]
theorem run_typeInfo' (h : tinf P t = some ti) (w : World) : ∃ i, (typeInfo t).run P w = .ok i w ∧ i.bytes = ti.bytes ∧ i.size = ti.size := by
  obtain ⟨i, d, hi, hd, hz, _, hs, hb, _⟩ := tinf_spec h
  exact ⟨i, by simp [typeInfo, hi], hb, hs⟩
end

/-- A slice type's elements. -/
def selem (P : Program) (t : TypeId) : Option TypeId :=
  match P.underlying t with
  | some (.slice e) => some e
  | _ => none
theorem selem_spec {P : Program} {t e : TypeId} (h : selem P t = some e) : P.underlying t = some (.slice e) := by
  unfold selem at h
  split at h
  · rename_i e' he
    injection h with h
    rw [he, h]
  · cases h
/-- A field: its first cell, its cells. -/
def fieldOf (P : Program) (s : TypeId) (f : Nat) : Option (Nat × Nat) :=
  match P.underlying s with
  | some (.struct fs) => match fs[f]? with
    | some fd => match tinf P fd.type with
      | some ti => if ti.size = 0 then none else some (fd.offset, ti.size)
      | none => none
    | none => none
  | _ => none
theorem fieldOf_spec {P : Program} {s : TypeId} {f off sz : Nat} (h : fieldOf P s f = some (off, sz)) : ∃ fs fd ti, P.underlying s = some (.struct fs) ∧ fs[f]? = some fd ∧ tinf P fd.type = some ti ∧ ti.size = sz ∧ sz ≠ 0 ∧ fd.offset = off := by
  unfold fieldOf at h
  split at h
  · rename_i fs hs
    split at h
    · rename_i fd hfd
      split at h
      · rename_i ti hti
        split at h
        · cases h
        · rename_i h0
          injection h with h
          injection h with h1 h2
          exact ⟨fs, fd, ti, hs, hfd, hti, h2, by rw [← h2]; exact h0, h1⟩
      · cases h
    · cases h
  · cases h

/-- Constants and zeros. -/
def ofScalar : Value → V
  | .int k n => .d (.int k n)
  | .bool b => .d (.bool b)
  | .string s => .d (.str s)
  | .slice none 0 0 => .nil
  | _ => .undef
def ofConst : Value → V
  | .agg cs => mkAgg (cs.toList.map ofScalar)
  | v => ofScalar v
theorem ofScalar_rv (g : Gh) (w : World) (v : Value) : RV g w (ofScalar v) v := by
  unfold ofScalar
  split
  · exact .d (.int _ _)
  · exact .d (.bool _)
  · exact .d (.str _)
  · exact .nil
  · exact .undef _
theorem ofConst_rv (g : Gh) (w : World) (v : Value) : RV g w (ofConst v) v := by
  unfold ofConst
  split
  · rename_i cs
    refine mkAgg_rv (by simp) fun j y hy => ?_
    simp only [List.getElem?_map, Option.map_eq_some_iff] at hy
    obtain ⟨c, hc, rfl⟩ := hy
    have : cs.getD j undef = c := by
      simp at hc
      simp [hc]
    rw [this]
    exact ofScalar_rv g w c
  · exact ofScalar_rv g w v

def evalBin (op : BinOp) : V → V → Option V
  | .d (.int k a), .d (.int k' b) => match op with
    | .shl => if b < 0 then none else some (.d (.int k (k.wrap (a * 2 ^ (min b.toNat k.bits)))))
    | .shr => if b < 0 then none else some (.d (.int k (a.fdiv (2 ^ (min b.toNat k.bits)))))
    | _ => if k = k' then match op with
      | .add => some (.d (.int k (k.wrap (a + b))))
      | .sub => some (.d (.int k (k.wrap (a - b))))
      | .mul => some (.d (.int k (k.wrap (a * b))))
      | .quo => if b = 0 then none else some (.d (.int k (k.wrap (a.tdiv b))))
      | .rem => if b = 0 then none else some (.d (.int k (a.tmod b)))
      | .and => some (.d (.int k (k.wrap (BitVec.ofInt k.bits a &&& BitVec.ofInt k.bits b).toNat)))
      | .or => some (.d (.int k (k.wrap (BitVec.ofInt k.bits a ||| BitVec.ofInt k.bits b).toNat)))
      | .xor => some (.d (.int k (k.wrap (BitVec.ofInt k.bits a ^^^ BitVec.ofInt k.bits b).toNat)))
      | .eql => some (.d (.bool (decide (a = b))))
      | .neq => some (.d (.bool (!decide (a = b))))
      | .lss => some (.d (.bool (decide (a < b))))
      | .leq => some (.d (.bool (decide (a ≤ b))))
      | .gtr => some (.d (.bool (decide (b < a))))
      | .geq => some (.d (.bool (decide (b ≤ a))))
      | _ => none
      else none
  | .d (.str a), .d (.str b) => match op with
    | .eql => some (.d (.bool (decide (a = b))))
    | .neq => some (.d (.bool (!decide (a = b))))
    | _ => none
  | _, _ => none

theorem toList_inj {a b : ByteArray} (h : a.toList = b.toList) : a = b := by
  rw [ByteArray.toList_eq, ByteArray.toList_eq] at h
  cases a; cases b
  simp at h
  simp [h]
theorem toList_beq (a b : ByteArray) : (a.toList == b.toList) = decide (a = b) := by
  by_cases h : a = b
  · subst h; simp
  · rw [decide_eq_false h]
    simpa using fun e => h (toList_inj e)

theorem evalBin_run {P : Program} {g : Gh} {w : World} {op : BinOp} {x y v : V} {a b : Value} (h : evalBin op x y = some v) (hx : RV g w x a) (hy : RV g w y b) (t : TypeId) :
    ∃ v', (Go.binOp op t a b).run P w = .ok v' w ∧ RV g w v v' ∧ (∀ cs, a ≠ .agg cs) ∧ a ≠ .nilIface := by
  unfold evalBin at h
  split at h
  · rename_i k a' k' b'
    cases hx with | d hx => cases hx; cases hy with | d hy => cases hy; cases op with
      | shl | shr =>
        simp at h
        obtain ⟨h1, h⟩ := h
        subst h
        have h2 : ¬ b' < 0 := by omega
        exact ⟨_, by simp [Go.binOp, Op.shift, h2] <;> rfl, .d (.int _ _), by simp, by simp⟩
      | quo | rem =>
        simp at h
        obtain ⟨h1, h2, h⟩ := h
        subst h1 h
        exact ⟨_, by simp [Go.binOp, Op.intDiv, h2] <;> rfl, .d (.int _ _), by simp, by simp⟩
      | eql | neq | lss | leq | gtr | geq =>
        simp at h
        obtain ⟨h1, h⟩ := h
        subst h1 h
        exact ⟨_, by simp [Go.binOp, Op.intCmp] <;> rfl, by first | exact .d (.bool _) | (rw [show (a' == b') = decide (a' = b') from rfl]; exact .d (.bool _)) | (rw [show (a' != b') = !decide (a' = b') from rfl]; exact .d (.bool _)), by simp, by simp⟩
      | add | sub | mul | and | or | xor =>
        simp at h
        obtain ⟨h1, h⟩ := h
        subst h1 h
        exact ⟨_, by simp only [Go.binOp, Op.intArith, Op.intBits, ne_eq, not_true_eq_false, if_false]; rfl, .d (.int _ _), by simp, by simp⟩
      | _ => simp at h
  · rename_i a' b'
    cases hx with
    | d hx => cases hx; cases hy with
      | d hy =>
        cases hy
        cases op <;> simp at h <;> subst h <;> exact ⟨_, by simp only [Go.binOp, Op.stringOp, toList_beq] <;> rfl, .d (.bool _), by simp, by simp⟩
  · cases h

theorem eqGuard_run {P : Program} {w : World} {op : BinOp} {t : TypeId} {x y : Operand} {a b : Value} (h1 : ∀ cs, a ≠ .agg cs) (h2 : a ≠ .nilIface) : (eqGuard op t x y a b).run P w = .ok () w := by
  unfold eqGuard
  cases a with
  | agg cs => exact absurd rfl (h1 cs)
  | nilIface => exact absurd rfl h2
  | _ => cases op <;> simp

def evalUn (op : UnOp) : V → Option V
  | .d (.bool b) => match op with | .not => some (.d (.bool (!b))) | _ => none
  | .d (.int k n) => match op with | .neg => some (.d (.int k (k.wrap (0 - n)))) | _ => none
  | _ => none
theorem evalUn_run {P : Program} {g : Gh} {w : World} {op : UnOp} {x v : V} {a : Value} (h : evalUn op x = some v) (hx : RV g w x a) : ∃ v', (Op.unary op a).run P w = .ok v' w ∧ RV g w v v' := by
  unfold evalUn at h
  split at h
  · cases hx with
    | d hx =>
      cases hx
      cases op <;> simp at h
      subst h
      exact ⟨_, by simp [Op.unary] <;> rfl, .d (.bool _)⟩
  · cases hx with
    | d hx =>
      cases hx
      cases op <;> simp at h
      subst h
      exact ⟨_, by simp [Op.unary, Op.intArith] <;> rfl, .d (.int _ _)⟩
  · cases h

/-- A slice of the right kind of elements, each a row of single cells. -/
def D.one : D → Bool
  | .agg _ => false
  | _ => true
def okEl (sz : Nat) (x : D) : Bool := x.cells.length == sz && x.cells.all D.one

def intOf? : V → Option Int
  | .d (.int _ n) => some n
  | _ => none

def bnd (d : Int) : Option V → Option Int
  | none => some d
  | some v => intOf? v
def evalSlice (P : Program) (t : TypeId) (x : V) (lo hi mx : Option V) : Option V :=
  match x with
  | .d (.str s) => match bnd 0 lo, bnd s.size hi, mx, P.underlying t with
    | some l, some h, none, some .string => if 0 ≤ l ∧ l ≤ h ∧ h ≤ s.size then some (.d (.str (s.extract l.toNat h.toNat))) else none
    | _, _, _, _ => none
  | .d (.sl xs) => match selem P t with
    | some e => match tinf P e with
      | some ti => match mx with
        | none => match bnd 0 lo, bnd xs.length hi with
          | some l, some h => if 0 ≤ l ∧ l ≤ h ∧ h ≤ xs.length then
              if xs.all (okEl ti.size) then some (.d (.sl ((xs.take h.toNat).drop l.toNat))) else none
            else none
          | _, _ => none
        | some m => match lo, bnd 1 hi, intOf? m with
          | none, some 0, some 0 => some .e0
          | _, _, _ => none
      | none => none
    | none => none
  | .ms nm sz o n => match bnd 0 lo, bnd n hi, mx, selem P t with
    | some l, some h, none, some e => match tinf P e with
      | some ti => if 0 ≤ l ∧ l ≤ h ∧ h ≤ n ∧ sz = ti.size then some (.ms nm sz (o + l.toNat) (h.toNat - l.toNat)) else none
      | none => none
    | _, _, _, _ => none
  | _ => none

theorem intOf?_rv {g : Gh} {w : World} {x : V} {v : Value} {n : Int} (h : intOf? x = some n) (hx : RV g w x v) : ∃ k, v = .int k n := by
  unfold intOf? at h
  split at h
  · injection h with h
    subst h
    cases hx with | d hx => cases hx; exact ⟨_, rfl⟩
  · cases h
theorem run_sliceBound {P : Program} {w : World} {k : IntKind} {n : Int} {y : Nat} {c : BoundsCode} (h0 : 0 ≤ n) (h1 : n ≤ y) : (Instr.sliceBound (.int k n) y c).run P w = .ok n.toNat w := by
  simp [Instr.sliceBound, asIntOf, h0, h1]

theorem optInt {g : Gh} {w : World} {d : Int} {lo : Option V} {lov : Option Value} {l : Int} (h : bnd d lo = some l) (hl : OptRV g w lo lov) : (lo = none ∧ lov = none ∧ d = l) ∨ ∃ k, lov = some (.int k l) := by
  cases hl with
  | none => simp [bnd] at h; exact .inl ⟨rfl, rfl, h⟩
  | some hv => obtain ⟨k, rfl⟩ := intOf?_rv h hv; exact .inr ⟨k, rfl⟩

theorem addr_add (b o n : Nat) : (⟨b, o, none⟩ : Addr).add n = ⟨b, o + n, none⟩ := by
  unfold Addr.add
  split <;> simp_all

/-- A part of pure data is pure data. -/
theorem RD.part {F : Nat → Prop} {w : World} {xs : List D} {v : Value} (h : RD F w (.sl xs) v) {l r sz : Nat} (hl : l ≤ r) (hr : r ≤ xs.length) (hsz : xs.all (okEl sz) = true) :
    ∃ a c, v = .slice a xs.length c ∧ xs.length ≤ c ∧ ∀ (a' : Option Addr) (m : Nat), m ≤ c → r ≤ m → a' = (if m = l then a else a.map (·.add (l * sz))) → RD F w (.sl ((xs.take r).drop l)) (.slice a' (r - l) (m - l)) := by
  cases h with
  | slNil a c =>
    refine ⟨a, c, rfl, by simp, fun a' m _ hm _ => ?_⟩
    have hr0 : r = 0 := by simpa using hr
    subst hr0
    simp
    exact .slNil _ _
  | sl _ b o c sz' u hF hc h1 h2 h3 =>
    refine ⟨_, c, rfl, hc, fun a' m hmc hm ha => ?_⟩
    have hlen : ((xs.take r).drop l).length = r - l := by simp; omega
    by_cases hml : r = l
    · subst hml
      have : (xs.take r).drop r = [] := by apply List.eq_nil_of_length_eq_zero; rw [hlen]; omega
      rw [this]
      simp
      exact .slNil _ _
    · rw [if_neg (by omega)] at ha
      simp only [Option.map_some, addr_add] at ha
      subst ha
      have hszz : sz' = sz := by
        have hlt : l < xs.length := by omega
        have e1 := h1 l xs[l] (by simp [hlt])
        have e2 := List.all_eq_true.1 hsz xs[l] (List.getElem_mem _)
        simp [okEl] at e2
        rw [← e1, e2.1]
      subst hszz
      have hi : ∀ (i : Nat) (x : D), ((xs.take r).drop l)[i]? = some x → xs[l + i]? = some x := fun i x hx => by
        rw [List.getElem?_drop, List.getElem?_take] at hx
        split at hx
        · exact hx
        · cases hx
      rw [← hlen]
      refine .sl _ b (o + l * sz') (m - l) sz' (fun i j => u (l + i) j) hF (by rw [hlen]; omega) (fun i x hx => h1 _ x (hi i x hx)) (fun i j x y hx hy => ?_) (fun i j x y hx hy => h3 _ j x y (hi i x hx) hy)
      have := h2 (l + i) j x y (hi i x hx) hy
      rw [← this]
      congr 2
      rw [Nat.add_mul]
      omega

theorem sliceLen {g : Gh} {w : World} {xs : List D} {a : Value} (hx : RV g w (.d (.sl xs)) a) : ∃ A c, a = .slice A xs.length c ∧ xs.length ≤ c := by
  cases hx with | d hx => cases hx with
    | slNil A c => exact ⟨A, c, rfl, by simp⟩
    | sl _ b o c sz u _ hc => exact ⟨_, c, rfl, hc⟩

theorem evalSlice_run {P : Program} {g : Gh} {w : World} {t : TypeId} {x v : V} {a : Value} {lo hi mx : Option V} {lov hiv mxv : Option Value} (h : evalSlice P t x lo hi mx = some v) (hx : RV g w x a) (hl : OptRV g w lo lov) (hh : OptRV g w hi hiv) (hm : OptRV g w mx mxv) :
    ∃ v', (Instr.sliceAt t a lov hiv mxv).run P w = .ok v' w ∧ RV g w v v' := by
  unfold evalSlice at h
  split at h
  · -- a text
    rename_i s
    split at h
    · rename_i l h' hlo hhi hu
      split at h
      · rename_i hc
        injection h with h
        subst h
        cases hm
        obtain ⟨hc1, hc2, hc3⟩ := hc
        have hc4 : (0 : Int) ≤ h' := by omega
        have hc5 : l ≤ (h'.toNat : Int) := by omega
        have e : a = .string s := by cases hx with | d hx => cases hx; rfl
        subst e
        refine ⟨.string (s.extract l.toNat h'.toNat), ?_, .d (.str _)⟩
        rcases optInt hlo hl with ⟨_, rfl, rfl⟩ | ⟨k, rfl⟩ <;> rcases optInt hhi hh with ⟨_, rfl, rfl⟩ | ⟨k', rfl⟩ <;>
          simp (disch := omega) [Instr.sliceAt, run_underlying hu, Instr.slice, Instr.sliceBounds, run_sliceBound, hc1, hc3, hc4, hc5]
      · cases h
    · cases h
  · -- pure data
    rename_i xs
    split at h
    · rename_i e he
      have hu := selem_spec he
      obtain ⟨A, c, rfl, hcc⟩ := sliceLen hx
      split at h
      · rename_i ti hti
        have hsz := run_sizeOf' hti
        split at h
        · cases hm
          split at h
          · rename_i l h' hlo hhi
            split at h
            · rename_i hc
              obtain ⟨hc1, hc2, hc3⟩ := hc
              split at h
              · rename_i hall
                injection h with h
                subst h
                cases hx with | d hx =>
                  obtain ⟨A', c', e1, _, hpart⟩ := hx.part (l := l.toNat) (r := h'.toNat) (sz := ti.size) (by omega) (by omega) hall
                  injection e1 with e1 e2 e3
                  subst e1 e3
                  have hc4 : (0 : Int) ≤ h' := by omega
                  have hc5 : l ≤ (h'.toNat : Int) := by omega
                  have hc6 : h' ≤ (c : Int) := by omega
                  refine ⟨_, ?_, .d (hpart _ c (Nat.le_refl _) (by omega) rfl)⟩
                  rcases optInt hlo hl with ⟨_, rfl, rfl⟩ | ⟨k, rfl⟩ <;> rcases optInt hhi hh with ⟨_, rfl, rfl⟩ | ⟨k', rfl⟩ <;>
                    simp (disch := omega) [Instr.sliceAt, run_underlying hu, Instr.slice, Instr.sliceBounds, run_sliceBound, hsz, hc1, hc3, hc4, hc5, hc6]
              · cases h
            · cases h
          · cases h
        · split at h
          · rename_i m h1 h2 h3
            injection h with h
            subst h
            cases hl
            cases hm with | some hmv =>
              obtain ⟨k, rfl⟩ := intOf?_rv h3 hmv
              rcases optInt h2 hh with ⟨_, rfl, h9⟩ | ⟨k', rfl⟩
              · omega
              · refine ⟨.slice A 0 0, ?_, .e0 A⟩
                simp (disch := omega) [Instr.sliceAt, run_underlying hu, Instr.slice, Instr.sliceBounds, run_sliceBound, hsz]
          · cases h
      · cases h
    · cases h
  · -- a row of one's own
    rename_i nm sz o n
    split at h
    · rename_i l h' e hlo hhi he
      split at h
      case h_2 => cases h
      rename_i ti hti
      split at h
      · rename_i hc
        injection h with h
        subst h
        cases hm
        obtain ⟨hc1, hc2, hc3, hszr⟩ := hc
        have hu := selem_spec he
        have hsz := run_sizeOf' hti
        have hc4 : (0 : Int) ≤ h' := by omega
        have hc5 : l ≤ (h'.toNat : Int) := by omega
        cases hx with
        | ms _ _ _ _ b p c hU hb hs hp hn hc' =>
          have hc6 : h' ≤ (c : Int) := by omega
          refine ⟨.slice (if c = l.toNat then (some ⟨b, p, none⟩) else (some ⟨b, p, none⟩ : Option Addr).map (·.add (l.toNat * ti.size))) (h'.toNat - l.toNat) (c - l.toNat), ?_, ?_⟩
          · rcases optInt hlo hl with ⟨_, rfl, rfl⟩ | ⟨k, rfl⟩ <;> rcases optInt hhi hh with ⟨_, rfl, rfl⟩ | ⟨k', rfl⟩ <;>
              simp (disch := omega) [Instr.sliceAt, run_underlying hu, Instr.slice, Instr.sliceBounds, run_sliceBound, hsz, hc1, hc3, hc4, hc5, hc6]
          · by_cases hcl : c = l.toNat
            · have e1 : h'.toNat - l.toNat = 0 := by omega
              have e2 : c - l.toNat = 0 := by omega
              rw [e1, e2]
              exact .msZero _ _ _ _ hU
            · rw [if_neg hcl]
              simp only [Option.map_some, addr_add]
              refine .ms nm sz (o + l.toNat) _ b _ _ hU hb hs ?_ (by omega) (by omega)
              rw [hp, ← hszr, Nat.add_mul]
              omega
        | msZero _ _ _ a hU =>
          have hl0 : l = 0 := by omega
          have hh0 : h' = 0 := by omega
          subst hl0 hh0
          have hsz := run_sizeOf' (P := P) hti w
          refine ⟨.slice a 0 0, ?_, .msZero _ _ _ _ hU⟩
          rcases optInt hlo hl with ⟨_, rfl, _⟩ | ⟨k, rfl⟩ <;> rcases optInt hhi hh with ⟨_, rfl, _⟩ | ⟨k', rfl⟩ <;>
              simp (disch := omega) [Instr.sliceAt, run_underlying hu, Instr.slice, Instr.sliceBounds, run_sliceBound, hsz]
      · cases h
    · cases h
  · cases h
end Go.Proofs.Ytjjmedgibcffhaa.M
/- The other operations that touch no memory. -/
namespace Go.Proofs.Ytjjmedgibcffhaa.M
open Go.RowKit
set_option linter.unusedVariables false
set_option linter.unusedSimpArgs false

def evalIndexAddr (P : Program) (t : TypeId) (x i : V) : Option V :=
  match intOf? i, selem P t with
  | some n, some e => match tinf P e with
    | some ti => match x with
      | .d (.sl xs) => if 0 ≤ n then match xs[n.toNat]? with
        | some y => if okEl ti.size y then some (.rptr y.cells) else none
        | none => none
        else none
      | .ms nm sz o m => if 0 ≤ n ∧ n < m ∧ sz = ti.size then some (.eptr nm (o + n.toNat) 0) else none
      | _ => none
    | none => none
  | _, _ => none

theorem cast_toNat {n : Int} (h : 0 ≤ n) : ((n.toNat : Nat) : Int) = n := Int.toNat_of_nonneg h

theorem evalIndexAddr_run {P : Program} {g : Gh} {w : World} {t : TypeId} {x i v : V} {a b : Value} (h : evalIndexAddr P t x i = some v) (hx : RV g w x a) (hi : RV g w i b) :
    ∃ v', (Instr.indexAt t a b).run P w = .ok v' w ∧ RV g w v v' := by
  unfold evalIndexAddr at h
  split at h
  case h_2 => cases h
  rename_i n e hn he
  obtain ⟨k, rfl⟩ := intOf?_rv hn hi
  have hu := selem_spec he
  split at h
  case h_2 => cases h
  rename_i ti hti
  have hsz := run_sizeOf' hti
  split at h
  · rename_i xs
    split at h
    case isFalse => cases h
    rename_i h0
    split at h
    case h_2 => cases h
    rename_i y hy
    split at h
    case isFalse => cases h
    rename_i hok
    injection h with h
    subst h
    cases hx with | d hx =>
    have hlt : n.toNat < xs.length := (List.getElem?_eq_some_iff.1 hy).1
    cases hx with
    | slNil => simp at hy
    | sl _ b o c sz u hF hc h1 h2 h3 =>
      have hl := h1 _ _ hy
      have hok' := hok
      simp [okEl] at hok'
      have hs : sz = ti.size := by rw [← hl, hok'.1]
      subst hs
      refine ⟨.pointer (some ⟨b, o + n.toNat * ti.size, none⟩), ?_, .rptr _ b _ (u n.toNat) hF (fun j z hz => by simpa using h2 _ j _ z hy hz) (fun j z hz => h3 _ j _ z hy hz)⟩
      have hlt' : n < (xs.length : Int) := by omega
      simp [Instr.indexAt, asIntOf, run_underlying hu, hsz, h0, hlt', addr_add]
  · rename_i nm sz o m
    split at h
    case isFalse => cases h
    rename_i hc
    injection h with h
    subst h
    obtain ⟨h0, h1, h2⟩ := hc
    cases hx with
    | ms _ _ _ _ b p c hU hb hs hp hn' hc' =>
      refine ⟨.pointer (some ⟨b, p + n.toNat * ti.size, none⟩), ?_, .eptr nm _ 0 b _ hU hb ?_⟩
      · simp [Instr.indexAt, asIntOf, run_underlying hu, hsz, h0, h1, addr_add]
      · rw [hp, hs, h2, Nat.add_mul]
        omega
    | msZero => omega
  · cases h

def evalFieldAddr (P : Program) (s : TypeId) (f : Nat) (x : V) : Option V :=
  match fieldOf P s f, x with
  | some (off, _), .ptr nm o => some (.ptr nm (o + off))
  | some (off, _), .eptr nm i o => some (.eptr nm i (o + off))
  | some (off, _), .rptr cs => some (.rptr (cs.drop off))
  | _, _ => none
theorem evalFieldAddr_run {P : Program} {g : Gh} {w : World} {s : TypeId} {f : Nat} {x v : V} {a : Value} (h : evalFieldAddr P s f x = some v) (hx : RV g w x a) :
    ∃ v', (Instr.fieldAt s a f).run P w = .ok v' w ∧ RV g w v v' := by
  unfold evalFieldAddr at h
  split at h
  case h_4 => cases h
  all_goals
    rename_i off sz hf
    injection h with h
    subst h
    obtain ⟨fs, fd, ti, hu, hfd, hti, hsz, h0, hoff⟩ := fieldOf_spec hf
    have hs := run_sizeOf' hti w
    have h0' : ¬ ti.size = 0 := by omega
    subst hoff
    cases hx
    refine ⟨_, by simp [Instr.fieldAt, run_underlying hu, hfd, Instr.sureAddr, fieldPlace, hs, h0', addr_add] <;> rfl, ?_⟩
  · rename_i b hU hb
    exact .ptr _ _ b hU hb
  · rename_i b p hU hb hp
    exact .eptr _ _ _ b _ hU hb (by omega)
  · rename_i b o u hF h2 h3
    exact .rptr _ b _ (fun j => u (fd.offset + j)) hF (fun j y hy => by rw [List.getElem?_drop] at hy; rw [← h2 _ y hy]; congr 2; omega) (fun j y hy => by rw [List.getElem?_drop] at hy; exact h3 _ y hy)

def evalLen (P : Program) (t : TypeId) (x : V) : Option V :=
  match x, P.underlying t with
  | .d (.str s), some .string => some (.d (.int .i64 s.size))
  | .d (.sl xs), some (.slice _) => some (.d (.int .i64 xs.length))
  | .nil, some (.slice _) => some (.d (.int .i64 0))
  | .e0, some (.slice _) => some (.d (.int .i64 0))
  | .ms _ _ _ n, some (.slice _) => some (.d (.int .i64 n))
  | .d .nil, some (.slice _) => some (.d (.int .i64 0))
  | _, _ => none
theorem evalLen_run {P : Program} {g : Gh} {w : World} {t ty : TypeId} {x v : V} {a : Value} (h : evalLen P t x = some v) (hx : RV g w x a) :
    ∃ v', (Builtin.len_ #[t] ty #[a]).run P w = .ok v' w ∧ RV g w v v' := by
  unfold evalLen at h
  split at h
  case h_7 => cases h
  · rename_i s hu
    injection h with h
    subst h
    cases hx with | d hx =>
    cases hx
    exact ⟨.int .i64 s.size, by simp [Builtin.len_, run_underlying hu, goInt], .d (.int _ _)⟩
  · rename_i xs e hu
    injection h with h
    subst h
    obtain ⟨A, c, rfl, _⟩ := sliceLen hx
    exact ⟨.int .i64 xs.length, by simp [Builtin.len_, run_underlying hu, goInt], .d (.int _ _)⟩
  · rename_i e hu
    injection h with h
    subst h
    cases hx
    exact ⟨.int .i64 0, by simp [Builtin.len_, run_underlying hu, goInt], .d (.int _ _)⟩
  · rename_i e hu
    injection h with h
    subst h
    cases hx
    exact ⟨.int .i64 0, by simp [Builtin.len_, run_underlying hu, goInt], .d (.int _ _)⟩
  · rename_i n e hu
    injection h with h
    subst h
    cases hx <;> exact ⟨_, by simp [Builtin.len_, run_underlying hu, goInt] <;> rfl, .d (.int _ _)⟩
  · rename_i e hu
    injection h with h
    subst h
    cases hx with | d hx =>
    cases hx
    exact ⟨.int .i64 0, by simp [Builtin.len_, run_underlying hu, goInt], .d (.int _ _)⟩

def evalExtract (x : V) (i : Nat) : Option V := match x with | .tup xs => xs[i]? | _ => none
theorem evalExtract_run {P : Program} {g : Gh} {w : World} {i : Nat} {x v : V} {a : Value} (h : evalExtract x i = some v) (hx : RV g w x a) :
    ∃ v', (Instr.extract a i).run P w = .ok v' w ∧ RV g w v v' := by
  unfold evalExtract at h
  split at h
  case h_2 => cases h
  cases hx with
  | tup xs vs hl hr =>
    have := hr i v h
    have hlt : i < vs.size := by rw [hl]; exact (List.getElem?_eq_some_iff.1 h).1
    refine ⟨vs[i], by simp [Instr.extract, hlt], ?_⟩
    simpa [hlt] using this

/-- A struct out of its parts: the cells of its zero, then part by part. -/
def setRange (cs : List V) (o : Nat) (ys : List V) : List V := cs.take o ++ ys ++ cs.drop (o + ys.length)
def fillV (P : Program) (s : TypeId) : List V → List (Nat × V) → Option (List V)
  | cs, [] => some cs
  | cs, (i, x) :: rest => match fieldOf P s i with
    | some (off, sz) => if x.firm = true ∧ x.cells.length = sz ∧ off + sz ≤ cs.length then fillV P s (setRange cs off x.cells) rest else none
    | none => none

/-- The cells of a value. -/
theorem rv_cells {g : Gh} {w : World} {x : V} {v : Value} (h : RV g w x v) (hf : x.firm = true) : v.cells.size = x.cells.length ∧ ∀ (j : Nat) (y : V), x.cells[j]? = some y → RV g w y (v.cells.getD j undef) := by
  have single : ∀ {x : V} {v : Value}, x.cells = [x] → v.cells = #[v] → RV g w x v → v.cells.size = x.cells.length ∧ ∀ (j : Nat) (y : V), x.cells[j]? = some y → RV g w y (v.cells.getD j undef) := by
    intro x v h1 h2 h3
    rw [h1, h2]
    refine ⟨rfl, fun j y hy => ?_⟩
    cases j with
    | zero => simp at hy; subst hy; simpa using h3
    | succ j => simp at hy
  cases h with
  | undef => cases hf
  | tup => cases hf
  | d hd =>
    cases hd with
    | agg xs vs hl hr =>
      refine ⟨by simpa [V.cells, Value.cells] using hl, fun j y hy => ?_⟩
      simp only [V.cells, List.getElem?_map, Option.map_eq_some_iff] at hy
      obtain ⟨z, hz, rfl⟩ := hy
      exact .d (hr j z hz)
    | int k n => exact single rfl rfl (.d (.int k n))
    | nil => exact single rfl rfl (.d .nil)
    | bool b => exact single rfl rfl (.d (.bool b))
    | str s => exact single rfl rfl (.d (.str s))
    | slNil a c => exact single rfl rfl (.d (.slNil a c))
    | sl xs b o c sz u hF hc h1 h2 h3 => exact single rfl rfl (.d (.sl xs b o c sz u hF hc h1 h2 h3))
  | agg xs vs hl hr => exact ⟨by simpa [V.cells, Value.cells] using hl, hr⟩
  | nil => exact single rfl rfl .nil
  | e0 a => exact single rfl rfl (.e0 a)
  | ptr nm o b hU hb => exact single rfl rfl (.ptr nm o b hU hb)
  | eptr nm i o b p hU hb hp => exact single rfl rfl (.eptr nm i o b p hU hb hp)
  | rptr cs b o u hF h2 h3 => exact single rfl rfl (.rptr cs b o u hF h2 h3)
  | ms nm sz o n b p c hU hb hs hp hn hc => exact single rfl rfl (.ms nm sz o n b p c hU hb hs hp hn hc)
  | msZero nm sz o a hU => exact single rfl rfl (.msZero nm sz o a hU)
  | map nm b hU hb => exact single rfl rfl (.map nm b hU hb)
  | fn f cs vs hl hr => exact single rfl rfl (.fn f cs vs hl hr)

theorem setRange_get (cs ys : List V) (o : Nat) (h : o + ys.length ≤ cs.length) (k : Nat) : (setRange cs o ys)[k]? = if o ≤ k ∧ k < o + ys.length then ys[k - o]? else cs[k]? := by
  unfold setRange
  have hl : (cs.take o).length = o := by simp; omega
  by_cases h1 : k < o
  · rw [if_neg (by omega), List.append_assoc, List.getElem?_append_left (by omega), List.getElem?_take_of_lt h1]
  · by_cases h2 : k < o + ys.length
    · rw [if_pos (by omega), List.append_assoc, List.getElem?_append_right (by omega), hl, List.getElem?_append_left (by omega)]
    · rw [if_neg (by omega), List.append_assoc, List.getElem?_append_right (by omega), hl, List.getElem?_append_right (by omega), List.getElem?_drop]
      congr 1
      omega
theorem setRange_len (cs ys : List V) (o : Nat) (h : o + ys.length ≤ cs.length) : (setRange cs o ys).length = cs.length := by
  unfold setRange
  simp
  omega

/-- A list of cells related to an array. -/
def RA (g : Gh) (w : World) (cs : List V) (vs : Array Value) : Prop := vs.size = cs.length ∧ ∀ (j : Nat) (y : V), cs[j]? = some y → RV g w y (vs.getD j undef)

theorem fold_get (off : Nat) : ∀ (l : List Value) (k : Nat) (cs : Array Value) (i : Nat), ((l.zipIdx k).foldl (fun cs (p : Value × Nat) => cs.setIfInBounds (off + p.2) p.1) cs).getD i undef = if off + k ≤ i ∧ i < off + k + l.length ∧ i < cs.size then l.getD (i - (off + k)) undef else cs.getD i undef
  | [], k, cs, i => by
    simp only [List.zipIdx_nil, List.foldl_nil, List.length_nil]
    rw [if_neg (by omega)]
  | x :: l, k, cs, i => by
    simp only [List.zipIdx_cons, List.foldl_cons]
    rw [fold_get off l (k + 1)]
    simp only [Array.size_setIfInBounds, List.length_cons]
    by_cases h1 : i = off + k
    · subst h1
      rw [if_neg (by omega)]
      by_cases h2 : off + k < cs.size
      · rw [if_pos ⟨by omega, by omega, h2⟩]
        simp [h2]
      · rw [if_neg (by omega)]
        simp [h2]
    · by_cases h2 : off + (k + 1) ≤ i ∧ i < off + (k + 1) + l.length ∧ i < cs.size
      · rw [if_pos h2, if_pos ⟨by omega, by omega, by omega⟩]
        have : i - (off + k) = (i - (off + (k + 1))) + 1 := by omega
        rw [this]
        simp
      · rw [if_neg h2, if_neg (by omega)]
        simp only [Array.getD_eq_getD_getElem?, Array.getElem?_setIfInBounds]
        rw [if_neg (by omega)]
theorem fold_size (off : Nat) : ∀ (l : List (Value × Nat)) (cs : Array Value), (l.foldl (fun cs (p : Value × Nat) => cs.setIfInBounds (off + p.2) p.1) cs).size = cs.size
  | [], cs => rfl
  | x :: l, cs => by simp only [List.foldl_cons]; rw [fold_size off l]; simp

theorem RA.fold {g : Gh} {w : World} {cs : List V} {vs : Array Value} (h : RA g w cs vs) {x : V} {v : Value} (hx : RV g w x v) (hf : x.firm = true) (off : Nat) (hle : off + x.cells.length ≤ cs.length) :
    RA g w (setRange cs off x.cells) (v.cells.zipIdx.foldl (fun cs (p : Value × Nat) => cs.setIfInBounds (off + p.2) p.1) vs) := by
  obtain ⟨h1, h2⟩ := rv_cells hx hf
  refine ⟨?_, fun j y hy => ?_⟩
  · rw [← Array.foldl_toList, Array.toList_zipIdx, fold_size, setRange_len _ _ _ hle]
    exact h.1
  · rw [← Array.foldl_toList, Array.toList_zipIdx, fold_get]
    rw [setRange_get _ _ _ hle] at hy
    have hs : v.cells.toList.length = x.cells.length := by simpa using h1
    rw [hs]
    split at hy
    · rename_i hc
      rw [if_pos ⟨by omega, by omega, by rw [h.1]; omega⟩]
      have := h2 _ y hy
      simpa [List.getD, Array.getD_eq_getD_getElem?] using this
    · rename_i hc
      rw [if_neg (by omega)]
      exact h.2 j y hy

theorem fillV_run {P : Program} {g : Gh} {w : World} {s : TypeId} (pl : Array (Nat × Nat)) (hpl : ∀ i off sz, fieldOf P s i = some (off, sz) → pl[i]? = some (off, sz)) {lk : Operand → V} {ev : Operand → Value} (hev : ∀ x, RV g w (lk x) (ev x)) :
    ∀ (ps : List (Nat × Operand)) (cs cs' : List V) (vs : Array Value), fillV P s cs (ps.map fun p => (p.1, lk p.2)) = some cs' → RA g w cs vs →
      ∃ vs', Instr.fill (pl[·]?) vs (ps.map fun p => (p.1, ev p.2)) = some vs' ∧ RA g w cs' vs'
  | [], cs, cs', vs, h, hr => by
    simp [fillV] at h
    subst h
    exact ⟨vs, rfl, hr⟩
  | (i, x) :: ps, cs, cs', vs, h, hr => by
    simp only [List.map_cons, fillV] at h
    split at h
    case h_2 => cases h
    rename_i off sz hf
    split at h
    case isFalse => cases h
    rename_i hc
    obtain ⟨hc1, hc2, hc3⟩ := hc
    have hx := hev x
    have hcl := (rv_cells hx hc1).1
    have hfold := hr.fold hx hc1 off (by omega)
    obtain ⟨vs', h5, h6⟩ := fillV_run pl hpl hev ps _ cs' _ h hfold
    refine ⟨vs', ?_, h6⟩
    simp only [List.map_cons, Instr.fill]
    rw [show pl[i]? = some (off, sz) from hpl i off sz hf]
    simp only
    rw [if_neg]
    · exact h5
    · rw [hcl, hc2, hr.1]
      simp
      omega

def placesOf (P : Program) (fs : Array Field) : Array (Nat × Nat) := fs.map fun f => (f.offset, ((P.info? f.type).map (·.size)).getD 0)
def bldOk (P : Program) (t : TypeId) : Bool := match P.underlying t with
  | some (.struct fs) => fs.all (fun f => (P.info? f.type).isSome)
  | _ => false
def evalBuild (P : Program) (t : TypeId) (parts : List (Nat × V)) : Option V :=
  match tinf P t with
  | some ti => if bldOk P t = true then (fillV P t (ti.zero.cells.toList.map ofScalar) parts).map mkAgg else none
  | none => none

theorem run_mapM_array {P : Program} {w : World} {α β : Type} (f : α → Sem β) (r : α → β) (xs : Array α) (h : ∀ x ∈ xs, (f x).run P w = .ok (r x) w) : (xs.mapM f).run P w = .ok (xs.map r) w := by
  have key : ∀ (l : List α), (∀ x ∈ l, (f x).run P w = .ok (r x) w) → (l.mapM f).run P w = .ok (l.map r) w := by
    intro l
    induction l with
    | nil => intro _; simp
    | cons x l ih =>
      intro hl
      simp [List.mapM_cons, hl x (by simp), ih (fun y hy => hl y (by simp [hy]))]
  rw [Array.mapM_eq_mapM_toList]
  simp [key xs.toList (fun x hx => h x (by simpa using hx))]
  apply Array.ext'
  simp

theorem evalBuild_run {P : Program} {g : Gh} {w : World} {t : TypeId} {parts : Array (Nat × Operand)} {v : V} {lk : Operand → V} {ev : Operand → Value} (hev : ∀ x, RV g w (lk x) (ev x)) (h : evalBuild P t (parts.toList.map fun p => (p.1, lk p.2)) = some v) :
    ∃ v', (Instr.build t (parts.map fun (i, x) => (i, ev x))).run P w = .ok v' w ∧ RV g w v v' := by
  unfold evalBuild at h
  split at h
  case h_2 => cases h
  rename_i ti hti
  split at h
  case isFalse => cases h
  rename_i hbo
  unfold bldOk at hbo
  split at hbo
  case h_2 => cases hbo
  rename_i fs hu
  have hall := hbo
  obtain ⟨i, d, hi, hd, hz, hzs, hs, _⟩ := tinf_spec hti
  cases hf : fillV P t (ti.zero.cells.toList.map ofScalar) (parts.toList.map fun p => (p.1, lk p.2)) with
  | none => simp [hf] at h
  | some cs' =>
    simp [hf] at h
    subst h
    have hmap : (Array.mapM (fun (f : Field) => (Prod.mk f.offset <$> sizeOf f.type : Sem (Nat × Nat))) fs).run P w = .ok (placesOf P fs) w := by
      refine run_mapM_array _ (fun (f : Field) => (f.offset, ((P.info? f.type).map (·.size)).getD 0)) fs fun f hf => ?_
      have hsome : (P.info? f.type).isSome := by
        rw [Array.all_eq_true_iff_forall_mem] at hall
        exact hall f hf
      obtain ⟨j, hj⟩ := Option.isSome_iff_exists.1 hsome
      simp [sizeOf, typeInfo, hj]
    have hra : RA g w (ti.zero.cells.toList.map ofScalar) ti.zero.cells := by
      refine ⟨by simp, fun j y hy => ?_⟩
      simp only [List.getElem?_map, Option.map_eq_some_iff] at hy
      obtain ⟨c, hc, rfl⟩ := hy
      have : ti.zero.cells.getD j undef = c := by
        simp at hc
        simp [hc]
      rw [this]
      exact ofScalar_rv g w c
    obtain ⟨vs', h5, h6⟩ := fillV_run (P := P) (s := t) (placesOf P fs) (fun i off sz hf => by
      obtain ⟨fs', fd, ti', hu', hfd, hti', hsz', _, ho⟩ := fieldOf_spec hf
      rw [hu] at hu'
      injection hu' with hu'
      injection hu' with hu'
      subst hu'
      obtain ⟨i', d', hi', _, _, _, hs', _⟩ := tinf_spec hti'
      simp [placesOf, hfd, hi', hs', hsz', ho]) hev parts.toList _ _ _ hf hra
    refine ⟨.agg vs', ?_, mkAgg_rv h6.1 h6.2⟩
    have hzr := run_zeroValue' hti w
    have hfill : Instr.fill (fun x => (placesOf P fs)[x]?) ti.zero.cells (parts.map fun (i, x) => (i, ev x)).toList = some vs' := by
      rw [Array.toList_map]
      exact h5
    simp [Instr.build, hzr, run_underlying hu, hmap]
    simp only [Array.toList_map] at hfill
    rw [hfill]
    rfl
end Go.Proofs.Ytjjmedgibcffhaa.M
/- Operations on memory: loads, stores, new blocks. -/
namespace Go.Proofs.Ytjjmedgibcffhaa.M
open Go.RowKit
set_option linter.unusedVariables false
set_option linter.unusedSimpArgs false

theorem rv_one {g : Gh} {w : World} {x : V} {v : Value} (h : RV g w x v) (h1 : x.one = true) : v.oneCell' = true := by
  cases h with
  | d hd => cases hd <;> first | rfl | (simp [V.one] at h1)
  | undef => cases h1
  | tup => cases h1
  | agg => cases h1
  | _ => rfl
theorem ra_one {g : Gh} {w : World} {cs : List V} {vs : Array Value} (h : RA g w cs vs) (h1 : cs.all V.one = true) : ∀ v ∈ vs.toList, v.oneCell' = true := by
  intro v hv
  obtain ⟨i, hi, rfl⟩ := List.getElem_of_mem hv
  have hi' : i < cs.length := by rw [← h.1]; simpa using hi
  have := h.2 i cs[i] (by simp [hi'])
  have hh := rv_one this (List.all_eq_true.1 h1 _ (List.getElem_mem _))
  simp at hi
  simpa [hi] using hh

/-- A new block. -/
def Gh.new (g : Gh) (nm : Nat) (r : Rf) : Gh := { ρ := fun n => if n = nm then r else g.ρ n, U := fun n => g.U n ∨ n = nm, F := g.F }
theorem Gh.new_at (g : Gh) (nm : Nat) (r : Rf) : (g.new nm r).ρ nm = r := by simp [Gh.new]
theorem Gh.new_ne (g : Gh) {nm n : Nat} (r : Rf) (h : n ≠ nm) : (g.new nm r).ρ n = g.ρ n := by simp [Gh.new, h]
theorem ext_new {g : Gh} {w w' : World} {nm : Nat} (r : Rf) (hn : ¬ g.U nm) (hlt : ∀ b, g.F b → b < w.heap.size) (hh : ∀ b, b < w.heap.size → w'.heap[b]? = w.heap[b]?) (ho : w'.os = w.os) (ht : w'.tape = w.tape) (hp : w'.output = w.output) (hs : w.heap.size ≤ w'.heap.size) : Ext g w (g.new nm r) w' :=
  ⟨fun n h => .inl h, fun n h => g.new_ne r (fun e => hn (e ▸ h)), fun b h => h, fun b h => hh b (hlt b h), ho, ht, hp, hs⟩
theorem RS.new {g : Gh} {w w' : World} {H : Nat → Option Blk} {nm : Nat} {r : Rf} {k : Blk} (h : RS g w H) (hn : ¬ g.U nm) (hh : ∀ b, b < w.heap.size → w'.heap[b]? = w.heap[b]?) (ho : w'.os = w.os) (ht : w'.tape = w.tape) (hp : w'.output = w.output) (hs : w.heap.size < w'.heap.size)
    (hr : r.blk = some w.heap.size) (hk : BlkOK (g.new nm r) w' nm k) : Ext g w (g.new nm r) w' ∧ RS (g.new nm r) w' (hset H nm (some k)) := by
  have e : Ext g w (g.new nm r) w' := ext_new r hn h.ltF hh ho ht hp (by omega)
  refine ⟨e, h.put e (fun n b _ hs hb => hh b (h.notF n b hs hb).2) (.inr rfl) hk ?_ ?_⟩
  · intro b hb
    rw [g.new_at, hr] at hb
    injection hb with hb
    subst hb
    exact ⟨fun hf => by have := h.ltF _ hf; omega, hs, fun n _ hsn hb => by have := (h.notF n _ hsn hb).2; omega⟩
  · intro b hb
    exact ⟨by have := h.ltF b hb; omega, fun n _ hsn hbn => (h.notF n b hsn hbn).1 hb⟩
/-- A new block of pure data. -/
def Gh.frz (g : Gh) (b : Nat) : Gh := { g with F := fun i => g.F i ∨ i = b }
theorem RS.newF {g : Gh} {w w' : World} {H : Nat → Option Blk} (h : RS g w H) (hh : ∀ b, b < w.heap.size → w'.heap[b]? = w.heap[b]?) (ho : w'.os = w.os) (ht : w'.tape = w.tape) (hp : w'.output = w.output) (hs : w.heap.size < w'.heap.size) :
    Ext g w (g.frz w.heap.size) w' ∧ RS (g.frz w.heap.size) w' H := by
  have e : Ext g w (g.frz w.heap.size) w' := ⟨fun _ h => h, fun _ _ => rfl, fun _ h => .inl h, fun b hb => hh b (h.ltF b hb), ho, ht, hp, by omega⟩
  refine ⟨e, h.ext e (fun n b hsn hb => hh b (h.notF n b hsn hb).2) ?_⟩
  rintro b (hb | rfl)
  · exact ⟨by have := h.ltF b hb; omega, fun n hsn hbn => (h.notF n b hsn hbn).1 hb⟩
  · exact ⟨hs, fun n hsn hbn => by have := (h.notF n _ hsn hbn).2; omega⟩
/-- A block that is there is written. -/
theorem RS.write {g : Gh} {w w' : World} {H : Nat → Option Blk} {nm b : Nat} {k k' : Blk} (h : RS g w H) (hH : H nm = some k) (hb : (g.ρ nm).blk = some b) (hh : ∀ i, i ≠ b → w'.heap[i]? = w.heap[i]?) (ho : w'.os = w.os) (ht : w'.tape = w.tape) (hp : w'.output = w.output) (hs : w'.heap.size = w.heap.size)
    (hk : Ext g w g w' → BlkOK g w' nm k') : Ext g w g w' ∧ RS g w' (hset H nm (some k')) := by
  have hsome : (H nm).isSome := by simp [hH]
  have hnF := h.notF nm b hsome hb
  have e : Ext g w g w' := ⟨fun _ h => h, fun _ _ => rfl, fun _ h => h, fun i hi => hh i (fun e => hnF.1 (e ▸ hi)), ho, ht, hp, by omega⟩
  refine ⟨e, h.put e (fun n i hn hsn hi => hh i (fun e => hn (h.inj n nm b hsn hsome (e ▸ hi) hb))) (h.ok nm k hH).1 (hk e) ?_ ?_⟩
  · intro i hi
    rw [hb] at hi
    injection hi with hi
    subst hi
    exact ⟨hnF.1, by rw [hs]; exact hnF.2, fun n hn hsn hbn => hn (h.inj n nm b hsn hsome hbn hb)⟩
  · intro i hi
    exact ⟨by rw [hs]; exact h.ltF i hi, fun n hn hsn hbn => (h.notF n i hsn hbn).1 hi⟩

/-- What a pointer points at: the cells from there on. -/
def refOf : V → Option Nat
  | .ptr nm _ | .eptr nm _ _ | .ms nm _ _ _ | .map nm => some nm
  | _ => none
def cellsAt (p : V) (blk : Option Blk) : Option (List V) :=
  match p, blk with
  | .rptr cs, _ => some (cs.map V.d)
  | .ptr _ o, some (.box cs) => some (cs.drop o)
  | .eptr _ i o, some (.row _ xs) => (xs[i]?).map fun x => x.cells.drop o
  | _, _ => none

theorem cellsAt_ok {g : Gh} {w : World} {p : V} {a : Value} {blk : Option Blk} {cs : List V} (h : cellsAt p blk = some cs) (hp : RV g w p a) (hb : ∀ nm k, refOf p = some nm → blk = some k → BlkOK g w nm k) :
    ∃ (b o : Nat) (u : Nat → Value), a = .pointer (some ⟨b, o, none⟩) ∧ ∀ (j : Nat) (y : V), cs[j]? = some y → w.cell? ⟨b, o + j, none⟩ = some (u j) ∧ RV g w y (u j) := by
  unfold cellsAt at h
  split at h
  · rename_i ds _
    injection h with h
    subst h
    cases hp with
    | rptr _ b o u hF h2 h3 =>
      refine ⟨b, o, u, rfl, fun j y hy => ?_⟩
      simp only [List.getElem?_map, Option.map_eq_some_iff] at hy
      obtain ⟨z, hz, rfl⟩ := hy
      exact ⟨h2 j z hz, .d (h3 j z hz)⟩
  · rename_i nm o cs'
    injection h with h
    subst h
    cases hp with
    | ptr _ _ b hU hblk =>
      obtain ⟨b', vs, t, h1, h2, h3, h4⟩ := hb nm _ rfl rfl
      rw [hblk] at h1
      injection h1 with h1
      subst h1
      refine ⟨b, o, fun j => vs.getD (o + j) undef, rfl, fun j y hy => ?_⟩
      rw [List.getElem?_drop] at hy
      have hlt : o + j < vs.size := by rw [h3]; exact (List.getElem?_eq_some_iff.1 hy).1
      exact ⟨by simp [World.cell?, h2, hlt], h4 _ y hy⟩
  · rename_i nm i o sz xs
    simp only [Option.map_eq_some_iff] at h
    obtain ⟨x, hx, rfl⟩ := h
    cases hp with
    | eptr _ _ _ b p hU hblk hp =>
      obtain ⟨h1, h2, h3, h4⟩ := hb nm _ rfl rfl
      rcases h4 with ⟨h4, _⟩ | ⟨b', vs, t, h4, h5, h6, h7⟩
      · rw [h4] at hblk; cases hblk
      · rw [hblk] at h4
        injection h4 with h4
        subst h4
        refine ⟨b, p, fun j => vs.getD (p + j) undef, rfl, fun j y hy => ?_⟩
        rw [List.getElem?_drop] at hy
        have hj : o + j < sz := by rw [← h3 i x hx]; exact (List.getElem?_eq_some_iff.1 hy).1
        have hi : i < (g.ρ nm).tot := Nat.lt_of_lt_of_le (List.getElem?_eq_some_iff.1 hx).1 h2
        have e : p + j = (g.ρ nm).off + i * sz + (o + j) := by rw [hp, h1]; omega
        have hlt : p + j < vs.size := by
          have : (i + 1) * sz ≤ (g.ρ nm).tot * sz := Nat.mul_le_mul_right _ hi
          rw [Nat.add_mul] at this
          omega
        refine ⟨by simp [World.cell?, h5, hlt], ?_⟩
        have := h7 i (o + j) x y hx hy
        simp only
        rw [e]
        exact this
  · cases h

def loadV (ti : TI) (cs : List V) : Option V := if ti.agg then (if ti.size ≤ cs.length then some (mkAgg (cs.take ti.size)) else none) else cs[0]?
def evalLoad (P : Program) (t : TypeId) (p : V) (blk : Option Blk) : Option V :=
  match tinf P t, cellsAt p blk with
  | some ti, some cs => loadV ti cs
  | _, _ => none
theorem evalLoad_run {P : Program} {g : Gh} {w : World} {t : TypeId} {p v : V} {a : Value} {blk : Option Blk} (h : evalLoad P t p blk = some v) (hp : RV g w p a) (hb : ∀ nm k, refOf p = some nm → blk = some k → BlkOK g w nm k) :
    ∃ v', (Instr.loadAt t a).run P w = .ok v' w ∧ RV g w v v' := by
  unfold evalLoad at h
  split at h
  case h_2 => cases h
  rename_i ti cs hti hcs
  obtain ⟨b, o, u, rfl, hu⟩ := cellsAt_ok hcs hp hb
  have hagg := run_isAgg' hti w
  have hsz := run_sizeOf' hti w
  unfold loadV at h
  split at h
  · rename_i ha
    split at h
    case isFalse => cases h
    rename_i hle
    injection h with h
    subst h
    have hl := run_loadCells (P := P) w ⟨b, o, none⟩ ti.size u (fun j hj => by
      rw [addr_add]
      exact (hu j cs[j] (by first | omega | (simp; done) | (simp; omega))).1)
    refine ⟨.agg ((List.range ti.size).map u).toArray, by simp [Instr.loadAt, Instr.sureAddr, loadVar, hagg, ha, hsz, hl], mkAgg_rv (by simp; omega) fun j y hy => ?_⟩
    rw [List.getElem?_take] at hy
    split at hy
    · rename_i hj
      have := (hu j y hy).2
      simpa [hj] using this
    · cases hy
  · rename_i ha
    have := hu 0 v h
    simp at this
    exact ⟨u 0, by simp [Instr.loadAt, Instr.sureAddr, loadVar, hagg, ha, load, Sem.run, this.1], this.2⟩

/-- A store. -/
def ofCells (x : V) (cs : List V) : V :=
  match x with
  | .d (.agg _) | .agg _ => mkAgg cs
  | _ => cs.headD .undef
def storeB (p : V) (blk : Option Blk) (ys : List V) : Option Blk :=
  match p, blk with
  | .ptr _ o, some (.box cs) => if o + ys.length ≤ cs.length then some (.box (setRange cs o ys)) else none
  | .eptr _ i o, some (.row sz xs) => match xs[i]? with
    | some x => if o + ys.length ≤ x.cells.length then some (.row sz (xs.set i (ofCells x (setRange x.cells o ys)))) else none
    | none => none
  | _, _ => none
theorem mkAgg_cells (cs : List V) : (mkAgg cs).cells = cs := by
  unfold mkAgg
  split
  · rename_i ds h
    rw [allD_some h]
    rfl
  · rfl
theorem one_cells {y : V} (h : y.one = true) : y.cells = [y] := by
  cases y with
  | d x => cases x <;> first | rfl | cases h
  | agg => cases h
  | _ => rfl
theorem ofCells_cells {x : V} {cs : List V} (hl : cs.length = x.cells.length) (h1 : ∀ y ∈ cs, y.one = true ∨ y ∈ x.cells) : (ofCells x cs).cells = cs := by
  have single : x.cells = [x] → (cs.headD .undef).cells = cs := by
    intro e
    rw [e] at hl
    match cs, hl with
    | [y], _ =>
      rcases h1 y (by simp) with h | h
      · exact one_cells h
      · rw [e] at h
        simp at h
        subst h
        exact e
  unfold ofCells
  split
  · exact mkAgg_cells cs
  · exact mkAgg_cells cs
  · rename_i ha hb
    refine single ?_
    cases x with
    | d x => cases x with
      | agg xs => exact absurd rfl (ha xs)
      | _ => rfl
    | agg xs => exact absurd rfl (hb xs)
    | _ => rfl
theorem setRange_mem {cs ys : List V} {o : Nat} {y : V} (h : y ∈ setRange cs o ys) : y ∈ ys ∨ y ∈ cs := by
  unfold setRange at h
  simp only [List.mem_append] at h
  rcases h with (h | h) | h
  · exact .inr (List.mem_of_mem_take h)
  · exact .inl h
  · exact .inr (List.mem_of_mem_drop h)

def evalStore (P : Program) (t : TypeId) (p x : V) (blk : Option Blk) : Option Blk :=
  match tinf P t with
  | some ti => if x.firm = true ∧ x.cells.length = ti.size ∧ x.cells.all V.one = true then storeB p blk x.cells else none
  | none => none

theorem take_drop_get (vs : Array Value) (o : Nat) (us : Array Value) (h : o + us.size ≤ vs.size) (i : Nat) :
    (vs.toList.take o ++ us.toList ++ vs.toList.drop (o + us.toList.length)).toArray.getD i undef = if o ≤ i ∧ i < o + us.size then us.getD (i - o) undef else vs.getD i undef := by
  have hl : (vs.toList.take o).length = o := by simp; omega
  simp only [Array.getD_eq_getD_getElem?, List.getElem?_toArray]
  by_cases h1 : i < o
  · rw [if_neg (by omega), List.append_assoc, List.getElem?_append_left (by omega), List.getElem?_take_of_lt h1]
    simp
  · by_cases h2 : i < o + us.size
    · rw [if_pos (by omega), List.append_assoc, List.getElem?_append_right (by omega), hl, List.getElem?_append_left (by simp; omega)]
      simp
    · rw [if_neg (by omega), List.append_assoc, List.getElem?_append_right (by omega), hl, List.getElem?_append_right (by simp; omega), List.getElem?_drop]
      simp
      congr 2
      omega

theorem evalStore_run {P : Program} {g : Gh} {w : World} {H : Nat → Option Blk} {t : TypeId} {p x : V} {a b : Value} {nm : Nat} {k' : Blk} (h : evalStore P t p x (H nm) = some k') (hS : RS g w H) (hnm : refOf p = some nm) (hp : RV g w p a) (hx : RV g w x b) :
    ∃ w', (Instr.storeAt t a b).run P w = .ok () w' ∧ Ext g w g w' ∧ RS g w' (hset H nm (some k')) := by
  unfold evalStore at h
  split at h
  case h_2 => cases h
  rename_i ti hti
  split at h
  case isFalse => cases h
  rename_i hc
  obtain ⟨hf, hlen, hone⟩ := hc
  have hsz := run_sizeOf' hti w
  obtain ⟨hcl, hcr⟩ := rv_cells hx hf
  have hra : RA g w x.cells b.cells := ⟨hcl, hcr⟩
  have hones := ra_one hra hone
  unfold storeB at h
  split at h
  · rename_i nm' o cs hH
    obtain rfl : nm' = nm := by simpa [refOf] using hnm
    split at h
    case isFalse => cases h
    rename_i hle
    injection h with h
    subst h
    obtain ⟨hU, hok⟩ := hS.ok _ _ hH
    obtain ⟨bb, vs, tt, h1, h2, h3, h4⟩ := hok
    cases hp with
    | ptr _ _ b' hU' hblk =>
      rw [h1] at hblk
      injection hblk with hblk
      subst hblk
      have hst := run_storeCells_at P bb o tt b.cells.toList 0 vs w h2 (by simp; omega) hones
      simp only [Nat.add_zero] at hst
      have hget := take_drop_get vs o b.cells (by omega)
      have hnsz : (vs.toList.take o ++ b.cells.toList ++ vs.toList.drop (o + b.cells.toList.length)).toArray.size = vs.size := by simp; omega
      obtain ⟨new, hnew⟩ : ∃ n, n = (vs.toList.take o ++ b.cells.toList ++ vs.toList.drop (o + b.cells.toList.length)).toArray := ⟨_, rfl⟩
      rw [← hnew] at hst hget hnsz
      clear hnew
      refine ⟨_, by simp [Instr.storeAt, Instr.sureAddr, storeVar, hsz, hcl, hlen, hst]; rfl, ?_⟩
      refine hS.write hH h1 (fun i hi => setRow_other _ _ _ _ hi) rfl rfl rfl (by simp) fun e => ?_
      refine ⟨bb, _, tt, h1, setRow_heap _ _ _ _ _ _ h2, ?_, fun j y hy => ?_⟩
      · rw [hnsz, setRange_len _ _ _ hle, h3]
      · rw [hget]
        rw [setRange_get _ _ _ hle] at hy
        rw [hcl]
        split at hy
        · rename_i hc
          rw [if_pos hc]
          exact (hcr _ y hy).mono e
        · rename_i hc
          rw [if_neg hc]
          exact (h4 j y hy).mono e
  · rename_i nm' i o sz xs hH
    obtain rfl : nm' = nm := by simpa [refOf] using hnm
    split at h
    case h_2 => cases h
    rename_i el hel
    split at h
    case isFalse => cases h
    rename_i hle
    injection h with h
    subst h
    obtain ⟨hU, hok⟩ := hS.ok _ _ hH
    obtain ⟨h1, h2, h3, h4⟩ := hok
    cases hp with
    | eptr _ _ _ bb pp hU' hblk hpp =>
      rcases h4 with ⟨h4, _⟩ | ⟨b', vs, tt, h4, h5, h6, h7⟩
      · rw [h4] at hblk; cases hblk
      · rw [hblk] at h4
        injection h4 with h4
        subst h4
        have hi : i < xs.length := (List.getElem?_eq_some_iff.1 hel).1
        have hmul : (i + 1) * sz ≤ (g.ρ nm').tot * sz := Nat.mul_le_mul_right _ (by omega)
        have hels := h3 i el hel
        have hlt : pp + x.cells.length ≤ vs.size := by
          rw [Nat.add_mul] at hmul
          rw [hpp, h1]
          omega
        have hst := run_storeCells_at P bb pp tt b.cells.toList 0 vs w h5 (by simp; omega) hones
        simp only [Nat.add_zero] at hst
        have hget := take_drop_get vs pp b.cells (by omega)
        have hnsz : (vs.toList.take pp ++ b.cells.toList ++ vs.toList.drop (pp + b.cells.toList.length)).toArray.size = vs.size := by simp; omega
        obtain ⟨new, hnew'⟩ : ∃ n, n = (vs.toList.take pp ++ b.cells.toList ++ vs.toList.drop (pp + b.cells.toList.length)).toArray := ⟨_, rfl⟩
        rw [← hnew'] at hst hget hnsz
        clear hnew'
        refine ⟨_, by simp [Instr.storeAt, Instr.sureAddr, storeVar, hsz, hcl, hlen, hst]; rfl, ?_⟩
        refine hS.write hH hblk (fun i hi => setRow_other _ _ _ _ hi) rfl rfl rfl (by simp) fun e => ?_
        have hnew : (ofCells el (setRange el.cells o x.cells)).cells = setRange el.cells o x.cells := by
          refine ofCells_cells (setRange_len _ _ _ hle) fun y hy => ?_
          rcases setRange_mem hy with h | h
          · exact .inl (List.all_eq_true.1 hone y h)
          · exact .inr h
        have hset : ∀ (i' : Nat) (z : V), (xs.set i (ofCells el (setRange el.cells o x.cells)))[i']? = some z → z.cells.length = sz ∧ ∀ (j : Nat) (y : V), z.cells[j]? = some y → RV g (w.setRow bb new) y (new.getD ((g.ρ nm').off + i' * sz + j) undef) := by
          intro i' z hz
          rw [List.getElem?_set] at hz
          split at hz
          · rename_i hii
            subst hii
            simp [hi] at hz
            subst hz
            refine ⟨by rw [hnew, setRange_len _ _ _ hle, hels], fun j y hy => ?_⟩
            rw [hnew, setRange_get _ _ _ hle] at hy
            rw [hget]
            split at hy
            · rename_i hc
              rw [if_pos (by rw [hpp, h1, hcl]; omega)]
              have := (hcr _ y hy).mono e
              have e2 : (g.ρ nm').off + i * sz + j - pp = j - o := by rw [hpp, h1]; omega
              rw [e2]
              exact this
            · rename_i hc
              rw [if_neg (by rw [hpp, h1, hcl]; omega)]
              exact (h7 i j el y hel hy).mono e
          · rename_i hii
            have hzl := h3 i' z hz
            refine ⟨hzl, fun j y hy => ?_⟩
            rw [hget]
            have hj : j < sz := by rw [← hzl]; exact (List.getElem?_eq_some_iff.1 hy).1
            rw [if_neg ?_]
            · exact (h7 i' j z y hz hy).mono e
            · rw [hpp, h1, hcl]
              rcases Nat.lt_or_gt_of_ne hii with hlt | hgt
              · have : (i + 1) * sz ≤ i' * sz := Nat.mul_le_mul_right _ hlt
                rw [Nat.add_mul] at this
                omega
              · have : (i' + 1) * sz ≤ i * sz := Nat.mul_le_mul_right _ hgt
                rw [Nat.add_mul] at this
                omega
        refine ⟨h1, by simpa using h2, fun i' z hz => (hset i' z hz).1, .inr ⟨bb, _, tt, hblk, setRow_heap _ _ _ _ _ _ h5, by rw [hnsz]; exact h6, fun i' j z y hz hy => (hset i' z hz).2 j y hy⟩⟩
  · cases h
end Go.Proofs.Ytjjmedgibcffhaa.M
