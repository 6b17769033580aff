/- pair.Pairs and pair.Busy for their callers: the answers as kinds of data. -/
import Derived.Test.YtjjmedgibcffhaaRPairs
import Derived.Test.YtjjmedgibcffhaaRAlive4
namespace Go.Proofs.Ytjjmedgibcffhaa
open Go.RowKit Go.MapKept
set_option linter.unusedSimpArgs false
set_option linter.unusedVariables false

def Ty.pair : Ty PairD where
  sz := 3
  bytes := 24
  V := fun _ => True
  K := fun F w cs x => cs = encP x
  len := by rintro F w cs x rfl; rfl
  mono := fun h _ => h
  weak := fun h _ => h
/-- The blocks that a call has made. -/
def Fresh (w w' : World) : Nat → Prop := fun b => w.heap.size ≤ b ∧ b < w'.heap.size

/-- An own row of flat elements, as what is read. -/
theorem own_sl {α : Type} {t : Ty α} {enc : α → List Value} (hsz : ∀ x, (enc x).length = t.sz) (hs : 0 < t.sz) (hK : ∀ F w x, t.K F w (enc x) x) {w : World} {base : Nat} {e : TypeId} {v : Value} {xs : List α} {F : Nat → Prop}
    (h : w.ownsRow base e t.sz v xs.length (xs.flatMap enc)) (hF : ∀ b, base ≤ b → b < w.heap.size → F b) (hl : xs.length * t.bytes ≤ 140737488351232) :
    ∃ A c, v = .slice A xs.length c ∧ xs.length ≤ c ∧ t.Sl F w A xs := by
  rcases Nat.eq_zero_or_pos xs.length with h0 | h0
  · obtain ⟨A, c, rfl⟩ := own_shape h
    refine ⟨A, c, rfl, by omega, hl, .inl (List.eq_nil_of_length_eq_zero h0)⟩
  · obtain ⟨g, cap, rfl, hb, hg, hc, hcell, _⟩ := own_slice h h0
    refine ⟨_, cap, rfl, hc, hl, .inr ⟨g, 0, rfl, hF g hb hg, fun i x hi => ⟨enc x, hK _ _ _, fun j v hv => ?_⟩⟩⟩
    obtain ⟨hil, rfl⟩ := List.getElem?_eq_some_iff.1 hi
    have hj : j < t.sz := by
      have := (List.getElem?_eq_some_iff.1 hv).1
      rwa [hsz] at this
    have := hcell (i * t.sz + j) v (by rw [flat_get hsz xs i j hil hj]; exact hv)
    simpa using this

theorem Ty.Sl.pair_at {F : Nat → Prop} {w : World} {A : Option Addr} {xs : List PairD} (h : Ty.pair.Sl F w A xs) (i : Nat) (hi : i < xs.length) :
    ∃ b o, A = some ⟨b, o, none⟩ ∧ F b ∧ w.cell? ⟨b, o + i * 3, none⟩ = some (.int .i64 (xs[i].from_ : Int)) ∧ w.cell? ⟨b, o + i * 3 + 1, none⟩ = some (.int .i64 xs[i].to_) ∧ w.cell? ⟨b, o + i * 3 + 2, none⟩ = some (.int .i64 xs[i].status) := by
  rcases h.2 with h0 | ⟨b, o, hA, hF, hx⟩
  · subst h0; simp at hi
  · obtain ⟨cs, hK, hc⟩ := hx i xs[i] (by simp [hi])
    have hK : cs = encP xs[i] := hK
    subst hK
    exact ⟨b, o, hA, hF, hc 0 _ rfl, hc 1 _ rfl, hc 2 _ rfl⟩

theorem pairsSt_inv (l : List EventD) : ∀ j ps op, pairsSt l j = .ok (ps, op) → j ≤ l.length → PInv j ps op := by
  intro j
  induction j with
  | zero =>
    intro ps op h _
    simp only [pairsSt, Except.ok.injEq, Prod.mk.injEq] at h
    obtain ⟨rfl, rfl⟩ := h
    exact ⟨by simp, by simp, by simp⟩
  | succ j ih =>
    intro ps' op' h hj
    have hjl : j < l.length := by omega
    cases hst : pairsSt l j with
    | error e => simp only [pairsSt, hst] at h; cases h
    | ok s =>
      obtain ⟨ps, op⟩ := s
      have hi := ih ps op hst (by omega)
      rw [pairsSt_succ hst hjl] at h
      unfold pairStep at h
      split at h
      · cases h
      · rename_i s hs
        injection h with h
        subst h
        split at hs
        · rename_i k hk
          split at hs
          · cases hs
          · split at hs
            · cases hs
            · rename_i p hp
              split at hs
              · cases hs
              · split at hs
                · simp only [Option.some.injEq, Prod.mk.injEq] at hs
                  obtain ⟨rfl, rfl⟩ := hs
                  obtain ⟨hkl, rfl⟩ := List.getElem?_eq_some_iff.1 hp
                  refine ⟨by have := hi.1; simp; omega, fun q k' hq => ?_, fun k' hk' => ?_⟩
                  · by_cases e : q = l[j].proc
                    · subst e
                      rw [upd_same] at hq
                      cases hq
                    · rw [upd_ne _ _ e] at hq
                      simpa using hi.2.1 q k' hq
                  · have hk2 : k' < ps.length := by simpa using hk'
                    rw [List.getElem_set]
                    split
                    · have := hi.2.2 k hkl
                      simp
                      omega
                    · have := hi.2.2 k' hk2
                      omega
                · cases hs
        · split at hs
          · simp only [Option.some.injEq, Prod.mk.injEq] at hs
            obtain ⟨rfl, rfl⟩ := hs
            refine ⟨by have := hi.1; simp; omega, fun q k' hq => ?_, fun k' hk' => ?_⟩
            · by_cases e : q = l[j].proc
              · subst e
                rw [upd_same] at hq
                injection hq with hq
                simp
                omega
              · rw [upd_ne _ _ e] at hq
                have := hi.2.1 q k' hq
                simp
                omega
            · rcases Nat.lt_or_ge k' ps.length with hlt | hge
              · rw [List.getElem_append_left hlt]
                have := hi.2.2 k' hlt
                omega
              · rw [List.getElem_append_right hge]
                simp
          · cases hs

def psOf (r : Except (Int × Int) (List PairD)) : List PairD := match r with | .ok ps => ps | .error _ => []
def flOf (r : Except (Int × Int) (List PairD)) : Int × Int := match r with | .ok _ => (0, 0) | .error e => e
theorem pairsF_ok {l : List EventD} {ps : List PairD} (h : pairsF l = .ok ps) : listOk l = true ∧ ∃ op, pairsSt l l.length = .ok (ps, op) := by
  unfold pairsF at h
  split at h
  · rename_i hok
    refine ⟨hok, ?_⟩
    split at h
    · cases h
    · rename_i s hs
      injection h with h
      subst h
      exact ⟨s.2, hs⟩
  · cases h
theorem psOf_len (l : List EventD) : (psOf (pairsF l)).length ≤ 256 := by
  cases h : pairsF l with
  | error e => simp [psOf]
  | ok ps =>
    obtain ⟨hok, op, hst⟩ := pairsF_ok h
    have := (pairsSt_inv l _ _ _ hst (Nat.le_refl _)).1
    have := listOk_len hok
    simp [psOf]
    omega
theorem psOf_from (l : List EventD) (k : Nat) (hk : k < (psOf (pairsF l)).length) : (psOf (pairsF l))[k].from_ < l.length := by
  revert hk
  cases h : pairsF l with
  | error e => simp [psOf]
  | ok ps =>
    intro hk
    obtain ⟨hok, op, hst⟩ := pairsF_ok h
    exact (pairsSt_inv l _ _ _ hst (Nat.le_refl _)).2.2 k hk

def PairsRes (xs : List EventD) (w : World) (e : Ending) (w' : World) : Prop :=
  ∃ A c, e = .returned (.tuple #[.slice A (psOf (pairsF xs)).length c, .agg #[.int .i64 (flOf (pairsF xs)).1, .int .i64 (flOf (pairsF xs)).2]]) ∧ Ty.pair.Sl (Fresh w w') w' A (psOf (pairsF xs)) ∧ Below w.heap.size w w'
theorem pairs_res (xs : List EventD) (F : Nat → Prop) (w : World) (A : Option Addr) (c : Nat) (hx : Ty.event.Sl F w A xs) (hF : ∀ b, F b → b < w.heap.size) :
    Calls Try.prog 19 #[.slice A xs.length c] w (PairsRes xs w) := by
  refine (pairs_calls xs F w A c hx hF).mono fun e w' ⟨hb, h⟩ => ?_
  have hlen := psOf_len xs
  unfold PairsRes
  revert h hlen
  cases pairsF xs with
  | error ea =>
    intro h _
    exact ⟨none, 0, h, Ty.Sl.nil _ _ _ _, hb⟩
  | ok ps =>
    rintro ⟨v, rfl, hown⟩ hlen
    have hlen : ps.length ≤ 256 := hlen
    obtain ⟨A', c', rfl, _, hs⟩ := own_sl (t := Ty.pair) (enc := encP) encP_len (by decide) (fun _ _ _ => rfl) (F := Fresh w w') hown (fun b h1 h2 => ⟨h1, h2⟩) (show ps.length * 24 ≤ _ by omega)
    exact ⟨A', c', rfl, hs, hb⟩
theorem pairs_res_n (xs : List EventD) (n : Nat) (hn : xs.length = n) (F : Nat → Prop) (w : World) (A : Option Addr) (c : Nat) (hx : Ty.event.Sl F w A xs) (hF : ∀ b, F b → b < w.heap.size) :
    Calls Try.prog 19 #[.slice A n c] w (PairsRes xs w) := by
  subst hn
  exact pairs_res xs F w A c hx hF
theorem Ty.Sl.take {α : Type} {t : Ty α} {F : Nat → Prop} {w : World} {A : Option Addr} {xs : List α} (h : t.Sl F w A xs) (n : Nat) : t.Sl F w A (xs.take n) := by
  refine ⟨Nat.le_trans (Nat.mul_le_mul_right _ (by simp; omega)) h.1, ?_⟩
  rcases h.2 with h0 | ⟨b, o, hA, hF, hx⟩
  · subst h0; exact .inl (by simp)
  · refine .inr ⟨b, o, hA, hF, fun i x hi => hx i x ?_⟩
    rw [List.getElem?_take] at hi
    split at hi
    · exact hi
    · cases hi
theorem flOf_cases (l : List EventD) : (flOf (pairsF l) = (0, 0) ∧ ∃ ps, pairsF l = .ok ps) ∨ (flOf (pairsF l) = (1, 0) ∧ pairsF l = .error (1, 0)) ∨ ∃ j : Nat, flOf (pairsF l) = (40, (j : Int)) ∧ pairsF l = .error (40, (j : Int)) ∧ listOk l = true ∧ pairsSt l l.length = .error j := by
  unfold pairsF
  split
  · rename_i hok
    cases h : pairsSt l l.length with
    | error j => exact .inr (.inr ⟨j, rfl, rfl, hok, rfl⟩)
    | ok s => exact .inl ⟨rfl, _, rfl⟩
  · exact .inr (.inl ⟨rfl, rfl⟩)
theorem listOk_take {l : List EventD} (h : listOk l = true) (n : Nat) : listOk (l.take n) = true := by
  unfold listOk at *
  simp only [Bool.and_eq_true, decide_eq_true_eq, List.all_eq_true] at *
  exact ⟨by simp; omega, fun x hx => h.2 x (List.mem_of_mem_take hx)⟩
theorem pairsSt_take (l : List EventD) (n : Nat) : ∀ j, j ≤ n → j ≤ l.length → pairsSt (l.take n) j = pairsSt l j := by
  intro j
  induction j with
  | zero => intros; rfl
  | succ j ih =>
    intro hj hl
    have ih := ih (by omega) (by omega)
    have hjt : j < (l.take n).length := by simp; omega
    have hjl : j < l.length := by omega
    cases hst : pairsSt l j with
    | error e => rw [hst] at ih; simp only [pairsSt, hst, ih]
    | ok s =>
      obtain ⟨ps, op⟩ := s
      rw [hst] at ih
      rw [pairsSt_succ hst hjl, pairsSt_succ ih hjt]
      have e1 : (l.take n)[j] = l[j] := by simp
      rw [e1]
      have hi := pairsSt_inv l j ps op hst (by omega)
      have : pairStep (l.take n) j l[j] ps op = pairStep l j l[j] ps op := by
        unfold pairStep
        split
        · rename_i k hk
          split
          · rfl
          · have hkl := hi.2.1 _ _ hk
            have hf := hi.2.2 k hkl
            rw [List.getElem?_eq_getElem hkl]
            simp only
            rw [List.getElem?_eq_getElem (show ps[k].from_ < l.length by omega), List.getElem?_eq_getElem (show ps[k].from_ < (l.take n).length by simp; omega)]
            simp
        · rfl
      rw [this]
/-- An error is of one of the events that have been looked at. -/
theorem pairsSt_err (l : List EventD) (e : Nat) : ∀ j, pairsSt l j = .error e → e < j ∧ e < l.length ∧ pairsSt l (e + 1) = .error e ∧ ∃ s, pairsSt l e = .ok s := by
  intro j
  induction j with
  | zero => intro h; cases h
  | succ j ih =>
    intro h
    cases hst : pairsSt l j with
    | error e' =>
      have h' := h
      simp only [pairsSt, hst, Except.error.injEq] at h'
      subst h'
      obtain ⟨h1, h2, h3, h4⟩ := ih hst
      exact ⟨by omega, h2, h3, h4⟩
    | ok s =>
      have h' := h
      simp only [pairsSt, hst] at h'
      split at h'
      · cases h'
      · rename_i x hx
        split at h'
        · injection h' with h'
          subst h'
          exact ⟨by omega, (List.getElem?_eq_some_iff.1 hx).1, h, s, hst⟩
        · cases h'
theorem take_ok {l : List EventD} {ps : List PairD} (h : pairsF l = .ok ps) (n : Nat) (hn : n ≤ l.length) : ∃ ps', pairsF (l.take n) = .ok ps' := by
  obtain ⟨hok, op, hst⟩ := pairsF_ok h
  have : ∃ s, pairsSt l n = .ok s := by
    cases hs : pairsSt l n with
    | error e => rw [pairsSt_bad hs _ hn] at hst; cases hst
    | ok s => exact ⟨s, rfl⟩
  obtain ⟨s, hs⟩ := this
  unfold pairsF
  rw [if_pos (listOk_take hok n)]
  have : (l.take n).length = n := by simp; omega
  rw [this, pairsSt_take l n n (Nat.le_refl _) hn, hs]
  exact ⟨_, rfl⟩
theorem take_bad {l : List EventD} {j : Nat} (hok : listOk l = true) (h : pairsSt l l.length = .error j) (n : Nat) (hn : n ≤ l.length) :
    (j < n → pairsF (l.take n) = .error (40, (j : Int))) ∧ (n ≤ j → ∃ ps', pairsF (l.take n) = .ok ps') := by
  obtain ⟨h1, h2, h3, s, h4⟩ := pairsSt_err l j _ h
  have hl : (l.take n).length = n := by simp; omega
  unfold pairsF
  rw [if_pos (listOk_take hok n), hl, pairsSt_take l n n (Nat.le_refl _) hn]
  refine ⟨fun hj => ?_, fun hj => ?_⟩
  · rw [pairsSt_bad h3 n (by omega)]
  · cases hs : pairsSt l n with
    | error e => rw [pairsSt_bad hs j hj] at h4; cases h4
    | ok s' => exact ⟨_, rfl⟩
end Go.Proofs.Ytjjmedgibcffhaa
