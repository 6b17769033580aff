/- How a history is built: the pure model. -/
import Derived.Test.YtjjmedgibcffhaaRIx12
namespace Go.Proofs.Ytjjmedgibcffhaa
open Go.RowKit M
set_option linter.unusedSimpArgs false
set_option linter.unusedVariables false
def entersE (b : Bk) : List CallD → Int → Except Int Bk
  | [], _ => .ok b
  | c :: r, who => match enterB b c who with
    | .ok b' => entersE b' r who
    | .error e => .error e
def opOf (b : Bk) (c : CallD) : OpD := ⟨c.kind, (((findN b.keys c.key).getD 0 : Nat) : Int), c.arg, c.got, c.vals⟩
def callsFor (l : List EventD) (p : PairD) : List CallD := if p.status = 1 then (ev l p.to_.toNat).calls else (ev l p.from_).calls
def txnOf (l : List EventD) (p : PairD) (b : Bk) : TxnD := ⟨(ev l p.from_).proc, p.status, p.from_, p.to_, (callsFor l p).map (opOf b)⟩
def buildStep (l : List EventD) (i : Nat) (p : PairD) (b : Bk) (ts : List TxnD) : Except (Int × Int) (Bk × List TxnD) :=
  if i = 32 then .error (2, p.from_) else match entersE b (ev l p.from_).calls p.from_ with
    | .error e => .error (e, p.from_)
    | .ok b' => .ok (b', ts ++ [txnOf l p b'])
def buildSt (l : List EventD) (ps : List PairD) : Nat → Except (Int × Int) (Bk × List TxnD)
  | 0 => .ok (.empty, [])
  | i + 1 => match buildSt l ps i with
    | .error e => .error e
    | .ok (b, ts) => match ps[i]? with
      | none => .ok (b, ts)
      | some p => buildStep l i p b ts
noncomputable def buildF (l : List EventD) : HistD × Int × Int := match pairsF l with
  | .error e => (⟨[], []⟩, e)
  | .ok ps => match buildSt l ps ps.length with
    | .error e => (⟨[], []⟩, e)
    | .ok (b, ts) => (⟨b.keys, ts⟩, 0, 0)
theorem buildSt_succ {l : List EventD} {ps : List PairD} {i : Nat} {b : Bk} {ts : List TxnD} (h : buildSt l ps i = .ok (b, ts)) (hi : i < ps.length) : buildSt l ps (i + 1) = buildStep l i ps[i] b ts := by
  simp only [buildSt, h, List.getElem?_eq_getElem hi]
theorem buildSt_bad {l : List EventD} {ps : List PairD} {i : Nat} {e : Int × Int} (h : buildSt l ps i = .error e) : ∀ {m : Nat}, i ≤ m → buildSt l ps m = .error e := by
  intro m hm
  induction m with
  | zero => obtain rfl : i = 0 := by omega
            exact h
  | succ m ih =>
    rcases Nat.lt_or_ge m i with h1 | h1
    · obtain rfl : i = m + 1 := by omega
      exact h
    · rw [buildSt, ih h1]
theorem buildF_bad {l : List EventD} {ps : List PairD} {i : Nat} {b : Bk} {ts : List TxnD} {e : Int × Int} (hp : pairsF l = .ok ps) (hi : i < ps.length) (h : buildSt l ps i = .ok (b, ts)) (hs : buildStep l i ps[i] b ts = .error e) : buildF l = (⟨[], []⟩, e) := by
  have h1 : buildSt l ps (i + 1) = .error e := by rw [buildSt_succ h hi]; exact hs
  rw [buildF, hp]
  simp only
  rw [buildSt_bad h1 hi]
theorem buildF_ok {l : List EventD} {ps : List PairD} {b : Bk} {ts : List TxnD} (hp : pairsF l = .ok ps) (h : buildSt l ps ps.length = .ok (b, ts)) : buildF l = (⟨b.keys, ts⟩, 0, 0) := by
  rw [buildF, hp]
  simp only
  rw [h]
theorem entersE_take : ∀ (cs : List CallD) (b : Bk) (who : Int) (k : Nat) (h : k < cs.length) (b1 : Bk), entersE b (cs.take k) who = .ok b1 → entersE b (cs.take (k + 1)) who = enterB b1 cs[k] who
  | c :: r, b, who, 0, _, b1, h1 => by
    simp only [List.take_zero, entersE, Except.ok.injEq] at h1
    subst h1
    simp only [List.take_succ_cons, List.take_zero, entersE, List.getElem_cons_zero]
    cases enterB b c who <;> rfl
  | c :: r, b, who, k + 1, h, b1, h1 => by
    simp only [List.take_succ_cons, entersE, List.getElem_cons_succ] at h1 ⊢
    cases he : enterB b c who with
    | error e => rw [he] at h1; cases h1
    | ok b' =>
      rw [he] at h1
      exact entersE_take r b' who k (by simpa using h) b1 h1
theorem entersE_stop : ∀ (cs : List CallD) (b : Bk) (who : Int) (k : Nat) (e : Int), entersE b (cs.take k) who = .error e → entersE b cs who = .error e
  | [], b, who, k, e, h => by simpa using h
  | c :: r, b, who, 0, e, h => by simp [entersE] at h
  | c :: r, b, who, k + 1, e, h => by
    simp only [List.take_succ_cons, entersE] at h ⊢
    cases he : enterB b c who with
    | error e' => rw [he] at h; exact h
    | ok b' =>
      rw [he] at h
      exact entersE_stop r b' who k e h
theorem entersE_wf : ∀ (cs : List CallD) {b b' : Bk} {n : Nat} {who : Int}, b.Wf n → entersE b cs who = .ok b' → b'.Wf (n + cs.length)
  | [], b, b', n, who, hw, h => by
    simp only [entersE, Except.ok.injEq] at h
    subst h
    exact hw
  | c :: r, b, b', n, who, hw, h => by
    simp only [entersE] at h
    cases he : enterB b c who with
    | error e => rw [he] at h; cases h
    | ok b1 =>
      rw [he] at h
      have := entersE_wf r (enterB_wf hw he) h
      rw [List.length_cons, show n + (r.length + 1) = n + 1 + r.length by omega]
      exact this
/-- Keys stay where they are. -/
def KeysLe (b b' : Bk) : Prop := ∀ s k, findN b.keys s = some k → findN b'.keys s = some k
theorem KeysLe.refl (b : Bk) : KeysLe b b := fun _ _ h => h
theorem KeysLe.trans {a b c : Bk} (h : KeysLe a b) (k : KeysLe b c) : KeysLe a c := fun s i hs => k s i (h s i hs)
theorem enterB_keys {b b' : Bk} {n : Nat} {c : CallD} {who : Int} (hw : b.Wf n) (h : enterB b c who = .ok b') : KeysLe b b' ∧ ∃ k, findN b'.keys c.key = some k := by
  unfold enterB at h
  cases ha : addB b c with
  | none => rw [ha] at h; cases h
  | some p =>
    obtain ⟨b1, k⟩ := p
    rw [ha] at h
    obtain ⟨hw1, hf1⟩ := addB_wf hw ha
    obtain ⟨_, hk⟩ := putB_wf hw1 h
    refine ⟨fun s i hs => ?_, k, by rw [hk]; exact hf1⟩
    rw [hk]
    unfold addB at ha
    split at ha
    · injection ha with ha
      injection ha with ha1 _
      subst ha1
      exact hs
    · rename_i hn
      split at ha
      · cases ha
      · injection ha with ha
        injection ha with ha1 _
        subst ha1
        simp only [Bk.push, findN_push hn]
        split
        · rename_i e
          subst e
          rw [hn] at hs
          cases hs
        · exact hs
theorem entersE_keys : ∀ (cs : List CallD) {b b' : Bk} {n : Nat} {who : Int}, b.Wf n → entersE b cs who = .ok b' → KeysLe b b' ∧ ∀ c ∈ cs, ∃ k, findN b'.keys c.key = some k
  | [], b, b', n, who, hw, h => by
    simp only [entersE, Except.ok.injEq] at h
    subst h
    exact ⟨KeysLe.refl _, by simp⟩
  | c :: r, b, b', n, who, hw, h => by
    simp only [entersE] at h
    cases he : enterB b c who with
    | error e => rw [he] at h; cases h
    | ok b1 =>
      rw [he] at h
      obtain ⟨h1, k, h2⟩ := enterB_keys hw he
      obtain ⟨h3, h4⟩ := entersE_keys r (enterB_wf hw he) h
      refine ⟨h1.trans h3, fun c' hc => ?_⟩
      rcases List.mem_cons.1 hc with rfl | hc
      · exact ⟨k, h3 _ _ h2⟩
      · exact h4 c' hc
theorem listOk_ev {l : List EventD} (h : listOk l = true) {i : Nat} (hi : i < l.length) : eventOk (ev l i) = true := by
  unfold listOk at h
  simp only [Bool.and_eq_true, List.all_eq_true] at h
  rw [ev_eq hi]
  exact h.2 _ (List.getElem_mem _)
theorem match_keys {a b : EventD} (h : matchB a b = true) : ∀ c ∈ b.calls, ∃ c' ∈ a.calls, c'.key = c.key := by
  unfold matchB callsEq at h
  simp only [Bool.and_eq_true, decide_eq_true_eq, List.all_eq_true] at h
  intro c hc
  obtain ⟨i, hi, rfl⟩ := List.getElem_of_mem hc
  have hl := h.2.1
  have hia : i < a.calls.length := by omega
  refine ⟨a.calls[i], List.getElem_mem _, ?_⟩
  have := h.2.2 (a.calls[i], b.calls[i]) (by
    rw [List.mem_iff_getElem]
    exact ⟨i, by simp; omega, by simp⟩)
  simp only [callEq, Bool.and_eq_true, decide_eq_true_eq] at this
  exact M.toList_inj this.1.2
/-- What is known of each pair while a history is built. -/
structure PairOk (l : List EventD) (p : PairD) : Prop where
  frm : p.from_ < l.length
  fok : eventOk (ev l p.from_) = true
  to_ : p.status = 1 → ∃ t : Nat, p.to_ = t ∧ t < l.length ∧ eventOk (ev l t) = true ∧ matchB (ev l p.from_) (ev l t) = true
theorem pair_ok {l : List EventD} {ps : List PairD} (hp : pairsF l = .ok ps) {i : Nat} (hi : i < ps.length) : PairOk l ps[i] := by
  obtain ⟨op, hF⟩ := pairsF_finv hp
  obtain ⟨hok, _⟩ := pairsF_ok hp
  refine ⟨(hF.frm i hi).1, listOk_ev hok (hF.frm i hi).1, fun hs => ?_⟩
  rcases hF.to_ i hi with ⟨_, h3⟩ | ⟨t, h1, h2, h3, h4, h5, h6, h7⟩
  · omega
  · exact ⟨t, h1, h3, listOk_ev hok h3, h7⟩
theorem PairOk.keys {l : List EventD} {p : PairD} (h : PairOk l p) {b b' : Bk} {n : Nat} {who : Int} (hw : b.Wf n) (he : entersE b (ev l p.from_).calls who = .ok b') : ∀ c ∈ callsFor l p, ∃ k, findN b'.keys c.key = some k := by
  have hk := (entersE_keys _ hw he).2
  intro c hc
  unfold callsFor at hc
  split at hc
  · rename_i hs
    obtain ⟨t, h1, h2, h3, h4⟩ := h.to_ hs
    rw [h1] at hc
    obtain ⟨c', hc', e⟩ := match_keys h4 c (by simpa using hc)
    rw [← e]
    exact hk c' hc'
  · exact hk c hc
theorem PairOk.calls16 {l : List EventD} {p : PairD} (h : PairOk l p) : (callsFor l p).length ≤ 16 := by
  unfold callsFor
  split
  · rename_i hs
    obtain ⟨t, h1, h2, h3, h4⟩ := h.to_ hs
    rw [h1]
    exact (eventOk_spec h3).2.2.1
  · exact (eventOk_spec h.fok).2.2.1
theorem PairOk.callOk {l : List EventD} {p : PairD} (h : PairOk l p) : ∀ c ∈ callsFor l p, ∃ ev, callOk c ev = true := by
  intro c hc
  unfold callsFor at hc
  split at hc
  · rename_i hs
    obtain ⟨t, h1, h2, h3, h4⟩ := h.to_ hs
    rw [h1] at hc
    exact ⟨_, (eventOk_spec h3).2.2.2 c (by simpa using hc)⟩
  · exact ⟨_, (eventOk_spec h.fok).2.2.2 c hc⟩
theorem buildSt_wf {l : List EventD} {ps : List PairD} (hp : pairsF l = .ok ps) : ∀ {i : Nat} {b : Bk} {ts : List TxnD}, i ≤ ps.length → buildSt l ps i = .ok (b, ts) → b.Wf (16 * i) ∧ ts.length = i ∧ i ≤ 32
  | 0, b, ts, _, h => by
    simp only [buildSt, Except.ok.injEq, Prod.mk.injEq] at h
    obtain ⟨rfl, rfl⟩ := h
    exact ⟨Bk.Wf.empty, rfl, by omega⟩
  | i + 1, b, ts, hi, h => by
    cases h0 : buildSt l ps i with
    | error e => rw [buildSt, h0] at h; cases h
    | ok s =>
      obtain ⟨b0, ts0⟩ := s
      obtain ⟨hw, hl, h32⟩ := buildSt_wf hp (by omega) h0
      rw [buildSt_succ h0 (by omega)] at h
      have hpo := pair_ok hp (i := i) (by omega)
      unfold buildStep at h
      split at h
      · cases h
      · rename_i hne
        cases he : entersE b0 (ev l ps[i].from_).calls ps[i].from_ with
        | error e => rw [he] at h; cases h
        | ok b1 =>
          rw [he] at h
          simp only [Except.ok.injEq, Prod.mk.injEq] at h
          obtain ⟨rfl, rfl⟩ := h
          have h16 := (eventOk_spec hpo.fok).2.2.1
          obtain ⟨a1, a2, a3, a4, a5, a6⟩ := entersE_wf _ hw he
          exact ⟨⟨a1, a2, a3, a4, fun k => Nat.le_trans (a5 k) (by omega), a6⟩, by simp [hl], by omega⟩
end Go.Proofs.Ytjjmedgibcffhaa
