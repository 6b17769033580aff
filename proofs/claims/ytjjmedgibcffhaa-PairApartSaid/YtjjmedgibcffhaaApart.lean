/- The pairs of one process's own events are that process's pairs: plain lists, no program in sight. -/
import Derived.Test.YtjjmedgibcffhaaPairInv
namespace Go.Proofs.Ytjjmedgibcffhaa
open Go.RowKit Go.MapKept
set_option linter.unusedSimpArgs false
set_option linter.unusedVariables false

def atOf (l : List EventD) (pr : Int) (j : Nat) : List Nat := (List.range j).filter fun i => (ev l i).proc == pr
def ownOf (l : List EventD) (pr : Int) (j : Nat) : List EventD := (atOf l pr j).map (ev l)
def liftP (A : List Nat) (q : PairD) : PairD := ⟨A.getD q.from_ 0, if q.to_ < 0 then q.to_ else (A.getD q.to_.toNat 0 : Nat), q.status⟩
def isOf (l : List EventD) (pr : Int) (p : PairD) : Bool := (ev l p.from_).proc == pr
def closeP (l : List EventD) (pr : Int) (t s : Int) (p : PairD) : PairD := if p.to_ = -1 ∧ (ev l p.from_).proc = pr then ⟨p.from_, t, s⟩ else p

theorem getD_app {a b : List Nat} {i : Nat} {d : Nat} (h : i < a.length) : (a ++ b).getD i d = a.getD i d := by
  rw [List.getD_eq_getElem?_getD, List.getElem?_append_left h, ← List.getD_eq_getElem?_getD]
theorem atOf_yes {l : List EventD} {pr : Int} {j : Nat} (h : (ev l j).proc = pr) : atOf l pr (j + 1) = atOf l pr j ++ [j] := by
  unfold atOf; rw [List.range_succ, List.filter_append]; simp [h]
theorem atOf_no {l : List EventD} {pr : Int} {j : Nat} (h : (ev l j).proc ≠ pr) : atOf l pr (j + 1) = atOf l pr j := by
  unfold atOf; rw [List.range_succ, List.filter_append]; simp [h]
theorem ownOf_len (l : List EventD) (pr : Int) (j : Nat) : (ownOf l pr j).length = (atOf l pr j).length := by simp [ownOf]
theorem atOf_get {l : List EventD} {pr : Int} {j i : Nat} (h : i < (atOf l pr j).length) : (atOf l pr j).getD i 0 < j ∧ (ev l ((atOf l pr j).getD i 0)).proc = pr := by
  have hm : (atOf l pr j)[i] ∈ atOf l pr j := List.getElem_mem h
  rw [List.getD_eq_getElem?_getD, List.getElem?_eq_getElem h]
  unfold atOf at hm ⊢
  simp only [List.mem_filter, List.mem_range, beq_iff_eq] at hm
  exact hm
theorem ev_own {l : List EventD} {pr : Int} {j i : Nat} (h : i < (atOf l pr j).length) : ev (ownOf l pr j) i = ev l ((atOf l pr j).getD i 0) := by
  rw [ev_eq (by rw [ownOf_len]; exact h), List.getD_eq_getElem?_getD, List.getElem?_eq_getElem h]
  simp [ownOf]
theorem set_close {l : List EventD} {j k : Nat} {ps : List PairD} {op : Int → Option Nat} (h : FInv l j ps op) {pr : Int} (ho : op pr = some k) (hk : k < ps.length) (t s : Int) :
    ps.set k ⟨ps[k].from_, t, s⟩ = ps.map (closeP l pr t s) := by
  apply List.ext_getElem
  · simp
  · intro i h1 h2
    have hi : i < ps.length := by simpa using h1
    rw [List.getElem_set, List.getElem_map]
    unfold closeP
    by_cases e : k = i
    · subst e
      obtain ⟨_, a, b⟩ := (h.opn pr k).1 ho
      rw [if_pos rfl, if_pos ⟨a, b⟩]
    · rw [if_neg e, if_neg]
      rintro ⟨a, b⟩
      have := (h.opn pr i).2 ⟨hi, a, b⟩
      rw [ho] at this
      injection this with this
      exact e this
theorem isOf_close (l : List EventD) (pr pr' : Int) (t s : Int) (p : PairD) : isOf l pr (closeP l pr' t s p) = isOf l pr p := by
  unfold isOf closeP
  split <;> rfl
theorem filter_close (l : List EventD) (pr pr' : Int) (t s : Int) (ps : List PairD) : (ps.map (closeP l pr' t s)).filter (isOf l pr) = (ps.filter (isOf l pr)).map (closeP l pr' t s) := by
  rw [List.filter_map]
  congr 1
  apply List.filter_congr
  intro p _
  exact isOf_close l pr pr' t s p

/-- One process's own events pair as they do among all. -/
theorem apart (l : List EventD) (pr : Int) : ∀ j ps op, pairsSt l j = .ok (ps, op) → j ≤ l.length →
    ∃ qs oq, pairsSt (ownOf l pr j) (ownOf l pr j).length = .ok (qs, oq) ∧ qs.map (liftP (atOf l pr j)) = ps.filter (isOf l pr) := by
  intro j
  induction j with
  | zero =>
    intro ps op h _
    simp only [pairsSt, Except.ok.injEq, Prod.mk.injEq] at h
    obtain ⟨rfl, rfl⟩ := h
    exact ⟨[], fun _ => none, rfl, rfl⟩
  | succ j ih =>
    intro ps' op' h hj
    have hjl : j < l.length := by omega
    cases hst : pairsSt l j with
    | error e => simp only [pairsSt, hst] at h; cases h
    | ok s =>
      obtain ⟨ps, op⟩ := s
      have hF := pairsSt_finv l j ps op hst (by omega)
      obtain ⟨qs, oq, hq, hrel⟩ := ih ps op hst (by omega)
      have hFq := pairsSt_finv _ _ _ _ hq (Nat.le_refl _)
      rw [pairsSt_succ hst hjl] at h
      have hev := ev_eq hjl
      rw [← hev] at h
      split at h
      · cases h
      · rename_i s' hs
        injection h with h
        subst h
        by_cases hpr : (ev l j).proc = pr
        · have hat := atOf_yes hpr
          have hown : ownOf l pr (j + 1) = ownOf l pr j ++ [ev l j] := by unfold ownOf; rw [hat, List.map_append]; rfl
          have hm := ownOf_len l pr j
          have hq' : pairsSt (ownOf l pr (j + 1)) (ownOf l pr j).length = .ok (qs, oq) := by
            have := pairsSt_take (ownOf l pr (j + 1)) (ownOf l pr j).length (ownOf l pr j).length (Nat.le_refl _) (by rw [hown]; simp)
            rw [← this]
            have e : (ownOf l pr (j + 1)).take (ownOf l pr j).length = ownOf l pr j := by rw [hown]; simp
            rw [e]
            exact hq
          have hlen : (ownOf l pr (j + 1)).length = (ownOf l pr j).length + 1 := by rw [hown]; simp
          have hstep := pairsSt_succ hq' (by rw [hlen]; omega)
          have hlast : (ownOf l pr (j + 1))[(ownOf l pr j).length]'(by rw [hlen]; omega) = ev l j := by simp [hown]
          rw [hlast] at hstep
          rw [hlen]
          have hlift : ∀ q ∈ qs, liftP (atOf l pr (j + 1)) q = liftP (atOf l pr j) q := by
            intro q hqm
            obtain ⟨k, hk, rfl⟩ := List.getElem_of_mem hqm
            have h1 := (hFq.frm k hk).1
            have h2 := hFq.to_ k hk
            rw [hm] at h1
            unfold liftP
            rw [hat, getD_app h1]
            rcases h2 with ⟨a, _⟩ | ⟨t, a, _, b, _⟩
            · rw [if_pos (by omega), if_pos (by omega)]
            · rw [if_neg (by omega), if_neg (by omega), getD_app (by omega)]
          have hmap := List.map_congr_left hlift
          cases ho : op (ev l j).proc with
          | none =>
            obtain ⟨hk0, rfl, rfl⟩ := pairStep_push ho hs
            have hoq : oq (ev l j).proc = none := by
              cases hoq : oq (ev l j).proc with
              | none => rfl
              | some k' =>
                obtain ⟨hk', a, b⟩ := (hFq.opn _ k').1 hoq
                have hmem : liftP (atOf l pr j) qs[k'] ∈ ps.filter (isOf l pr) := by rw [← hrel]; exact List.mem_map_of_mem (List.getElem_mem hk')
                obtain ⟨hmem, his⟩ := List.mem_filter.1 hmem
                obtain ⟨k, hk, e⟩ := List.getElem_of_mem hmem
                have := (hF.opn (ev l j).proc k).2 ⟨hk, by rw [e]; unfold liftP; rw [if_pos (by omega)]; exact a, by rw [e, hpr]; simpa [isOf] using his⟩
                rw [ho] at this
                cases this
            have hps : pairStep (ownOf l pr (j + 1)) (ownOf l pr j).length (ev l j) qs oq = some (qs ++ [⟨(ownOf l pr j).length, -1, 3⟩], upd oq (ev l j).proc (some qs.length)) := by
              unfold pairStep
              rw [hoq]
              simp only
              rw [if_pos hk0]
            rw [hps] at hstep
            refine ⟨_, _, hstep, ?_⟩
            rw [List.map_append, List.filter_append, hmap, hrel]
            congr 1
            have hi : isOf l pr ⟨j, -1, 3⟩ = true := by simp [isOf, hpr]
            simp [hi, liftP, hat, hm]
          | some k =>
            obtain ⟨hk0, hk, hfl, hmt, rfl, rfl⟩ := pairStep_set ho hs
            obtain ⟨_, a, b⟩ := (hF.opn _ k).1 ho
            have hmem : ps[k] ∈ qs.map (liftP (atOf l pr j)) := by
              rw [hrel, List.mem_filter]
              exact ⟨List.getElem_mem hk, by simp [isOf, b, hpr]⟩
            obtain ⟨q, hqm, hqe⟩ := List.mem_map.1 hmem
            obtain ⟨k', hk', rfl⟩ := List.getElem_of_mem hqm
            have hfr := (hFq.frm k' hk').1
            have hfr2 := hfr
            rw [hm] at hfr2
            have hto : qs[k'].to_ = -1 := by
              rw [← hqe] at a
              unfold liftP at a
              simp only at a
              split at a
              · exact a
              · omega
            have hfe : (atOf l pr j).getD qs[k'].from_ 0 = ps[k].from_ := by rw [← hqe]; rfl
            have hevo : ev (ownOf l pr j) qs[k'].from_ = ev l ps[k].from_ := by rw [ev_own hfr2, hfe]
            have hoq : oq (ev l j).proc = some k' := (hFq.opn _ k').2 ⟨hk', hto, by rw [hevo]; exact b⟩
            have hps : pairStep (ownOf l pr (j + 1)) (ownOf l pr j).length (ev l j) qs oq = some (qs.set k' ⟨qs[k'].from_, ((ownOf l pr j).length : Nat), (ev l j).kind⟩, upd oq (ev l j).proc none) := by
              unfold pairStep
              rw [hoq]
              simp only
              rw [if_neg hk0, List.getElem?_eq_getElem hk']
              simp only
              have e1 : (ownOf l pr (j + 1))[qs[k'].from_]? = some (ev l ps[k].from_) := by
                rw [hown, List.getElem?_append_left hfr, List.getElem?_eq_getElem hfr, ← ev_eq hfr, hevo]
              rw [e1]
              simp only
              rw [if_pos (by rw [ev_eq hfl]; exact hmt)]
            rw [hps] at hstep
            refine ⟨_, _, hstep, ?_⟩
            rw [set_close hFq hoq hk', set_close hF ho hk, filter_close, ← hrel, List.map_map, List.map_map]
            apply List.map_congr_left
            intro q hqm
            obtain ⟨i, hi, rfl⟩ := List.getElem_of_mem hqm
            have hf1 := (hFq.frm i hi).1
            rw [hm] at hf1
            have hl2 := hlift _ (List.getElem_mem hi)
            have hp1 := (atOf_get hf1).2
            have hp2 : (ev (ownOf l pr j) qs[i].from_).proc = pr := by rw [ev_own hf1]; exact hp1
            show liftP (atOf l pr (j + 1)) (closeP (ownOf l pr j) (ev l j).proc _ _ qs[i]) = closeP l (ev l j).proc _ _ (liftP (atOf l pr j) qs[i])
            by_cases ht : qs[i].to_ = -1
            · have e1 : closeP (ownOf l pr j) (ev l j).proc ((ownOf l pr j).length : Nat) (ev l j).kind qs[i] = ⟨qs[i].from_, ((ownOf l pr j).length : Nat), (ev l j).kind⟩ := by
                unfold closeP; rw [if_pos ⟨ht, by rw [hp2, hpr]⟩]
              have e2 : closeP l (ev l j).proc (j : Nat) (ev l j).kind (liftP (atOf l pr j) qs[i]) = ⟨(atOf l pr j).getD qs[i].from_ 0, (j : Nat), (ev l j).kind⟩ := by
                unfold closeP; rw [if_pos ⟨by unfold liftP; simp only; rw [if_pos (by omega)]; exact ht, by unfold liftP; simp only; rw [hp1, hpr]⟩]; rfl
              rw [e1, e2]
              unfold liftP
              simp only
              rw [if_neg (by omega), hat, getD_app hf1, hm]
              simp
            · have e1 : closeP (ownOf l pr j) (ev l j).proc ((ownOf l pr j).length : Nat) (ev l j).kind qs[i] = qs[i] := by
                unfold closeP; rw [if_neg (fun x => ht x.1)]
              have e2 : closeP l (ev l j).proc (j : Nat) (ev l j).kind (liftP (atOf l pr j) qs[i]) = liftP (atOf l pr j) qs[i] := by
                unfold closeP
                rw [if_neg]
                rintro ⟨x, _⟩
                unfold liftP at x
                simp only at x
                split at x
                · exact ht x
                · omega
              rw [e1, e2, hl2]
        · have hat := atOf_no hpr
          have hown : ownOf l pr (j + 1) = ownOf l pr j := by unfold ownOf; rw [hat]
          rw [hat, hown]
          refine ⟨qs, oq, hq, ?_⟩
          rw [hrel]
          cases ho : op (ev l j).proc with
          | none =>
            obtain ⟨hk0, rfl, rfl⟩ := pairStep_push ho hs
            rw [List.filter_append]
            have : isOf l pr ⟨j, -1, 3⟩ = false := by simp [isOf, hpr]
            simp [this]
          | some k =>
            obtain ⟨hk0, hk, hfl, hmt, rfl, rfl⟩ := pairStep_set ho hs
            rw [set_close hF ho hk, filter_close]
            symm
            have : (ps.filter (isOf l pr)).map (closeP l (ev l j).proc j (ev l j).kind) = (ps.filter (isOf l pr)).map id := by
              apply List.map_congr_left
              intro p hp
              have hp2 : (ev l p.from_).proc = pr := by simpa [isOf] using (List.mem_filter.1 hp).2
              unfold closeP
              rw [if_neg (fun x => hpr (x.2.symm.trans hp2))]
              rfl
            rw [this, List.map_id]

theorem ownOf_ok {l : List EventD} (h : listOk l = true) (pr : Int) {j : Nat} (hj : j ≤ l.length) : listOk (ownOf l pr j) = true := by
  unfold listOk at *
  simp only [Bool.and_eq_true, decide_eq_true_eq, List.all_eq_true] at *
  refine ⟨?_, fun x hx => ?_⟩
  · have h1 : (atOf l pr j).length ≤ j := by
      have := List.length_filter_le (fun i => (ev l i).proc == pr) (List.range j)
      simpa [atOf] using this
    rw [ownOf_len]
    omega
  · obtain ⟨i, hi, rfl⟩ := List.mem_map.1 hx
    have hi2 : i < j := by
      unfold atOf at hi
      simpa using (List.mem_filter.1 hi).1
    have hil : i < l.length := by omega
    rw [ev_eq hil]
    exact h.2 _ (List.getElem_mem hil)
/-- What the law looks at. -/
theorem apartF {l : List EventD} {ps : List PairD} (h : pairsF l = .ok ps) (pr : Int) :
    ∃ qs oq, pairsF (ownOf l pr l.length) = .ok qs ∧ FInv (ownOf l pr l.length) (atOf l pr l.length).length qs oq ∧ qs.map (liftP (atOf l pr l.length)) = ps.filter (isOf l pr) := by
  obtain ⟨hok, op, hst⟩ := pairsF_ok h
  obtain ⟨qs, oq, h1, h2⟩ := apart l pr _ _ _ hst (Nat.le_refl _)
  have h3 := pairsSt_finv _ _ _ _ h1 (Nat.le_refl _)
  rw [ownOf_len] at h3
  refine ⟨qs, oq, ?_, h3, h2⟩
  unfold pairsF
  rw [if_pos (ownOf_ok hok pr (Nat.le_refl _)), h1]

/-- The place of an element among those that pass. -/
theorem filter_place {α : Type} (P : α → Bool) (xs : List α) (i : Nat) (hi : i < xs.length) (hp : P xs[i] = true) : (xs.filter P)[((xs.take i).filter P).length]? = some xs[i] := by
  have e : xs = xs.take i ++ xs[i] :: xs.drop (i + 1) := by simp
  have h2 : xs.filter P = (xs.take i).filter P ++ xs[i] :: (xs.drop (i + 1)).filter P := by
    conv => lhs; rw [e]
    rw [List.filter_append, List.filter_cons, if_pos hp]
  rw [h2, List.getElem?_append_right (Nat.le_refl _)]
  simp
theorem filter_next {α : Type} (P : α → Bool) (xs : List α) (i : Nat) (hi : i < xs.length) : ((xs.take (i + 1)).filter P).length = ((xs.take i).filter P).length + if P xs[i] = true then 1 else 0 := by
  rw [List.take_succ_eq_append_getElem hi, List.filter_append, List.length_append]
  congr 1
  rw [List.filter_cons]
  split <;> rfl
end Go.Proofs.Ytjjmedgibcffhaa
