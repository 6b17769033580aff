/- Part 11 of the texts that stand behind this law. -/
import Derived.Test.YtjjmedgibcffhaaZe10
/- What is built is sound: plain laws. -/
namespace Go.Proofs.Ytjjmedgibcffhaa
open Go.RowKit M
set_option linter.unusedSimpArgs false
set_option linter.unusedVariables false
/-- What the book sees of a call. -/
def strip (c : CallD) : CallD := ⟨c.kind, c.key, c.arg, false, []⟩
theorem enterB_strip (b : Bk) (c : CallD) (who : Int) : enterB b (strip c) who = enterB b c who := rfl
theorem entersE_strip : ∀ (cs : List CallD) (b : Bk) (who : Int), entersE b (cs.map strip) who = entersE b cs who
  | [], b, who => rfl
  | c :: r, b, who => by
    simp only [List.map_cons, entersE, enterB_strip]
    cases enterB b c who with
    | error e => rfl
    | ok b' => exact entersE_strip r b' who
theorem callsEq_strip : ∀ (l m : List CallD), callsEq l m = true → l.map strip = m.map strip
  | [], [], _ => rfl
  | [], _ :: _, h => by simp [callsEq] at h
  | _ :: _, [], h => by simp [callsEq] at h
  | a :: l, b :: m, h => by
    unfold callsEq at h
    simp only [List.length_cons, List.zip_cons_cons, List.all_cons, Bool.and_eq_true, decide_eq_true_eq] at h
    have ih := callsEq_strip l m (by
      unfold callsEq
      simp only [Bool.and_eq_true, decide_eq_true_eq]
      exact ⟨by omega, h.2.2⟩)
    have h1 := h.2.1
    simp only [callEq, Bool.and_eq_true, decide_eq_true_eq] at h1
    simp only [List.map_cons, ih, strip, h1.1.1, M.toList_inj h1.1.2, h1.2]
theorem PairOk.strip {l : List EventD} {p : PairD} (h : PairOk l p) : (callsFor l p).map strip = (ev l p.from_).calls.map strip := by
  unfold callsFor
  split
  · rename_i hs
    obtain ⟨t, h1, h2, h3, h4⟩ := h.to_ hs
    rw [h1]
    unfold matchB at h4
    rw [Bool.and_eq_true] at h4
    exact (callsEq_strip _ _ h4.2).symm
  · rfl
theorem strip_mem {cs cs' : List CallD} (h : cs.map strip = cs'.map strip) {c : CallD} (hc : c ∈ cs) : ∃ c' ∈ cs', c'.kind = c.kind ∧ c'.key = c.key ∧ c'.arg = c.arg := by
  have : strip c ∈ cs'.map strip := by rw [← h]; exact List.mem_map_of_mem hc
  obtain ⟨c', h1, h2⟩ := List.mem_map.1 this
  simp only [strip, CallD.mk.injEq] at h2
  exact ⟨c', h1, h2.1, h2.2.1, h2.2.2.1⟩
theorem strip_get {cs cs' : List CallD} (h : cs.map strip = cs'.map strip) {i : Nat} (h1 : i < cs.length) (h2 : i < cs'.length) : cs[i].kind = cs'[i].kind ∧ cs[i].key = cs'[i].key ∧ cs[i].arg = cs'[i].arg := by
  have : (cs.map strip)[i]? = (cs'.map strip)[i]? := by rw [h]
  simp only [List.getElem?_map, List.getElem?_eq_getElem h1, List.getElem?_eq_getElem h2, Option.map_some, Option.some.injEq, strip, CallD.mk.injEq] at this
  exact ⟨this.1, this.2.1, this.2.2.1⟩
/-- The same book, with other names of those who count. -/
def Bk.ren (φ : Int → Int) (b : Bk) : Bk := ⟨b.keys, b.types, b.wrote, b.incs.map (List.map φ)⟩
theorem incNext_ren {φ : Int → Int} (hφ : ∀ x y, φ x = φ y → x = y) (l : List Int) (who : Int) : incNext (l.map φ) (φ who) = (incNext l who).map φ := by
  unfold incNext
  rw [List.getLast?_map]
  by_cases h : l.getLast? = some who
  · rw [if_pos h, if_pos (by rw [h]; rfl)]
  · rw [if_neg h, if_neg (fun e => h ?_)]
    · simp
    · obtain ⟨x, h1, h2⟩ := Option.map_eq_some_iff.1 e
      rw [h1, hφ _ _ h2]
theorem ren_getD (φ : Int → Int) (ls : List (List Int)) (k : Nat) : (ls.map (List.map φ)).getD k [] = (ls.getD k []).map φ := by
  simp only [List.getD_eq_getElem?_getD, List.getElem?_map]
  cases ls[k]? <;> rfl
def renE (φ : Int → Int) : Except Int Bk → Except Int Bk
  | .ok b => .ok (b.ren φ)
  | .error e => .error e
theorem putB_ren {φ : Int → Int} (hφ : ∀ x y, φ x = φ y → x = y) (b : Bk) (k : Nat) (c : CallD) (who : Int) : putB (b.ren φ) k c (φ who) = renE φ (putB b k c who) := by
  unfold putB
  show (if b.types.getD k 0 ≠ tyOf c.kind then _ else _) = _
  by_cases h1 : b.types.getD k 0 ≠ tyOf c.kind
  · rw [if_pos h1, if_pos h1]; rfl
  · rw [if_neg h1, if_neg h1]
    by_cases h2 : c.kind = 2 ∨ c.kind = 3
    · rw [if_pos h2, if_pos h2]
      show (if c.arg ∈ b.wrote.getD k [] then _ else _) = _
      by_cases h3 : c.arg ∈ b.wrote.getD k []
      · rw [if_pos h3, if_pos h3]; rfl
      · rw [if_neg h3, if_neg h3]; rfl
    · rw [if_neg h2, if_neg h2]
      by_cases h4 : c.kind = 4
      · rw [if_pos h4, if_pos h4]
        have e : incNext ((b.ren φ).incs.getD k []) (φ who) = (incNext (b.incs.getD k []) who).map φ := by
          rw [← incNext_ren hφ]
          show incNext ((b.incs.map (List.map φ)).getD k []) _ = _
          rw [ren_getD]
        rw [e, List.length_map]
        by_cases h5 : 8 < (incNext (b.incs.getD k []) who).length
        · rw [if_pos h5, if_pos h5]; rfl
        · rw [if_neg h5, if_neg h5]
          simp only [renE, Bk.ren, List.map_set]
      · rw [if_neg h4, if_neg h4]; rfl
theorem enterB_ren {φ : Int → Int} (hφ : ∀ x y, φ x = φ y → x = y) (b : Bk) (c : CallD) (who : Int) : enterB (b.ren φ) c (φ who) = renE φ (enterB b c who) := by
  unfold enterB addB
  show (match (match findN b.keys c.key with | some k => some (b.ren φ, k) | none => if b.keys.length = 32 then none else some ((b.ren φ).push c, b.keys.length)) with | none => _ | some (b, k) => _) = _
  cases hf : findN b.keys c.key with
  | some k => exact putB_ren hφ b k c who
  | none =>
    by_cases hl : b.keys.length = 32
    · simp only [if_pos hl, renE]
    · simp only [if_neg hl]
      have : (b.ren φ).push c = (b.push c).ren φ := by simp [Bk.push, Bk.ren]
      rw [this]
      exact putB_ren hφ _ _ c who
theorem entersE_ren {φ : Int → Int} (hφ : ∀ x y, φ x = φ y → x = y) : ∀ (cs : List CallD) (b : Bk) (who : Int), entersE (b.ren φ) cs (φ who) = renE φ (entersE b cs who)
  | [], b, who => rfl
  | c :: r, b, who => by
    simp only [entersE, enterB_ren hφ]
    cases enterB b c who with
    | error e => rfl
    | ok b' => exact entersE_ren hφ r b' who
theorem enters_of : ∀ {cs : List CallD} {b b' : Bk} {who : Int}, entersE b cs who = .ok b' → enters b cs who = some b'
  | [], b, b', who, h => by
    simp only [entersE, Except.ok.injEq] at h
    rw [enters, h]
  | c :: r, b, b', who, h => by
    simp only [entersE] at h
    simp only [enters]
    cases he : enterB b c who with
    | error e => rw [he] at h; cases h
    | ok b1 =>
      rw [he] at h
      exact enters_of h
/-- The book grows. -/
structure Grow (b b' : Bk) : Prop where
  keys : KeysLe b b'
  typ : ∀ k, k < b.keys.length → b'.types.getD k 0 = b.types.getD k 0
  nodup : b.keys.Nodup → b'.keys.Nodup
def Typed (b : Bk) (c : CallD) : Prop := ∃ k, findN b.keys c.key = some k ∧ b.types.getD k 0 = tyOf c.kind
theorem Grow.refl (b : Bk) : Grow b b := ⟨KeysLe.refl _, fun _ _ => rfl, id⟩
theorem KeysLe.len {b b' : Bk} (h : KeysLe b b') : ∀ {k : Nat} {s : ByteArray}, findN b.keys s = some k → k < b'.keys.length := fun hk => findN_lt (h _ _ hk)
theorem Grow.typed {b b' : Bk} (h : Grow b b') {c : CallD} (ht : Typed b c) : Typed b' c := by
  obtain ⟨k, h1, h2⟩ := ht
  exact ⟨k, h.keys _ _ h1, by rw [h.typ k (findN_lt h1)]; exact h2⟩
theorem putB_types {b b' : Bk} {k : Nat} {c : CallD} {who : Int} (h : putB b k c who = .ok b') : b'.keys = b.keys ∧ b'.types = b.types ∧ b.types.getD k 0 = tyOf c.kind := by
  unfold putB at h
  split at h
  · cases h
  · rename_i ht
    have ht' : b.types.getD k 0 = tyOf c.kind := by simpa using ht
    split at h
    · split at h
      · cases h
      · injection h with h; subst h; exact ⟨rfl, rfl, ht'⟩
    · split at h
      · split at h
        · cases h
        · injection h with h; subst h; exact ⟨rfl, rfl, ht'⟩
      · injection h with h; subst h; exact ⟨rfl, rfl, ht'⟩
theorem enterB_grow {b b' : Bk} {n : Nat} {c : CallD} {who : Int} (hw : b.Wf n) (h : enterB b c who = .ok b') : Grow b b' ∧ b'.keys.length ≥ b.keys.length ∧ Typed b' c ∧ ∀ s, s ∈ b'.keys ↔ s ∈ b.keys ∨ c.key = s := by
  have hk := (enterB_keys hw h).1
  unfold enterB at h
  cases ha : addB b c with
  | none => rw [ha] at h; cases h
  | some p =>
    obtain ⟨b1, k⟩ := p
    rw [ha] at h
    obtain ⟨hw1, hf1⟩ := addB_wf hw ha
    obtain ⟨e1, e2, e3⟩ := putB_types h
    unfold addB at ha
    split at ha
    · rename_i j hj
      injection ha with ha
      injection ha with ha1 ha2
      subst ha1 ha2
      refine ⟨⟨hk, fun k _ => by rw [e2], fun hn => by rw [e1]; exact hn⟩, by rw [e1]; exact Nat.le_refl _, ⟨j, by rw [e1]; exact hj, by rw [e2]; exact e3⟩, fun s => ?_⟩
      rw [e1]
      constructor
      · exact .inl
      · rintro (h | rfl)
        · exact h
        · exact findN_mem.2 ⟨j, hj⟩
    · rename_i hn
      split at ha
      · cases ha
      · injection ha with ha
        injection ha with ha1 ha2
        subst ha1 ha2
        refine ⟨⟨hk, fun k hk => ?_, fun hnd => ?_⟩, by rw [e1]; simp [Bk.push], ⟨b.keys.length, by rw [e1]; exact hf1, by rw [e2]; exact e3⟩, fun s => ?_⟩
        · rw [e2]
          simp only [Bk.push]
          have := hw.types
          simp only [List.getD_eq_getElem?_getD, List.getElem?_append]
          rw [if_pos (by omega)]
        · rw [e1]
          simp only [Bk.push]
          rw [List.nodup_append]
          refine ⟨hnd, by simp, ?_⟩
          intro a ha b' hb' e
          simp only [List.mem_singleton] at hb'
          subst hb' e
          obtain ⟨j, hj⟩ := findN_mem.1 ha
          rw [hn] at hj
          cases hj
        · rw [e1]
          simp only [Bk.push, List.mem_append, List.mem_singleton]
          constructor <;> rintro (h | h) <;> first | exact .inl h | exact .inr h.symm
theorem Grow.trans {a b c : Bk} (h : Grow a b) (hl : a.keys.length ≤ b.keys.length) (k : Grow b c) : Grow a c :=
  ⟨h.keys.trans k.keys, fun i hi => by rw [k.typ i (by omega), h.typ i hi], fun hn => k.nodup (h.nodup hn)⟩
theorem entersE_grow : ∀ (cs : List CallD) {b b' : Bk} {n : Nat} {who : Int}, b.Wf n → entersE b cs who = .ok b' → Grow b b' ∧ b.keys.length ≤ b'.keys.length ∧ (∀ c ∈ cs, Typed b' c) ∧ ∀ s, s ∈ b'.keys ↔ s ∈ b.keys ∨ ∃ c ∈ cs, c.key = s
  | [], b, b', n, who, hw, h => by
    simp only [entersE, Except.ok.injEq] at h
    subst h
    exact ⟨Grow.refl _, Nat.le_refl _, by simp, by simp⟩
  | c :: r, b, b', n, who, hw, h => by
    simp only [entersE] at h
    cases he : enterB b c who with
    | error e => rw [he] at h; cases h
    | ok b1 =>
      rw [he] at h
      obtain ⟨g1, l1, t1, m1⟩ := enterB_grow hw he
      obtain ⟨g2, l2, t2, m2⟩ := entersE_grow r (enterB_wf hw he) h
      refine ⟨g1.trans l1 g2, by omega, fun c' hc => ?_, fun s => ?_⟩
      · rcases List.mem_cons.1 hc with rfl | hc
        · exact g2.typed t1
        · exact t2 c' hc
      · rw [m2, m1]
        simp only [List.mem_cons, exists_eq_or_imp, or_assoc]
theorem opOf_grow {b b' : Bk} (h : Grow b b') {c : CallD} (ht : Typed b c) : opOf b' c = opOf b c := by
  obtain ⟨k, h1, _⟩ := ht
  unfold opOf
  rw [h.keys _ _ h1, h1]
theorem txnOf_grow {l : List EventD} {p : PairD} {b b' : Bk} (h : Grow b b') (ht : ∀ c ∈ callsFor l p, Typed b c) : txnOf l p b' = txnOf l p b := by
  unfold txnOf
  congr 1
  exact List.map_congr_left fun c hc => opOf_grow h (ht c hc)
structure Built (l : List EventD) (ps : List PairD) (i : Nat) (b : Bk) (ts : List TxnD) : Prop where
  txns : ts = (ps.take i).map fun p => txnOf l p b
  typ : ∀ p ∈ ps.take i, ∀ c ∈ callsFor l p, Typed b c
  nodup : b.keys.Nodup
  mem : ∀ s, s ∈ b.keys ↔ ∃ p ∈ ps.take i, ∃ c ∈ (ev l p.from_).calls, c.key = s
theorem built {l : List EventD} {ps : List PairD} (hp : pairsF l = .ok ps) : ∀ {i : Nat} {b : Bk} {ts : List TxnD}, i ≤ ps.length → buildSt l ps i = .ok (b, ts) → Built l ps i b ts
  | 0, b, ts, _, h => by
    simp only [buildSt, Except.ok.injEq, Prod.mk.injEq] at h
    obtain ⟨rfl, rfl⟩ := h
    exact ⟨by simp, by simp, by simp [Bk.empty], by simp [Bk.empty]⟩
  | i + 1, b, ts, hi, h => by
    cases h0 : buildSt l ps i with
    | error e => rw [buildSt, h0] at h; cases h
    | ok s =>
      obtain ⟨b0, ts0⟩ := s
      have ih := built hp (by omega) h0
      obtain ⟨hw, hl, h32⟩ := buildSt_wf hp (by omega) h0
      rw [buildSt_succ h0 (by omega)] at h
      have hpo := pair_ok hp (i := i) (by omega)
      have htk : ps.take (i + 1) = ps.take i ++ [ps[i]] := by rw [List.take_add_one, List.getElem?_eq_getElem (by omega)]; rfl
      unfold buildStep at h
      split at h
      · cases h
      · cases he : entersE b0 (ev l ps[i].from_).calls ps[i].from_ with
        | error e => rw [he] at h; cases h
        | ok b1 =>
          rw [he] at h
          simp only [Except.ok.injEq, Prod.mk.injEq] at h
          obtain ⟨rfl, rfl⟩ := h
          obtain ⟨g, gl, gt, gm⟩ := entersE_grow _ hw he
          have hty : ∀ c ∈ callsFor l ps[i], Typed b1 c := fun c hc => by
            obtain ⟨c', h1, h2, h3, h4⟩ := strip_mem hpo.strip hc
            obtain ⟨k, h5, h6⟩ := gt c' h1
            exact ⟨k, by rw [← h3]; exact h5, by rw [← h2]; exact h6⟩
          refine ⟨?_, ?_, g.nodup ih.nodup, fun s => ?_⟩
          · have htx : ts0 = _ := ih.txns
            have : (ps.take i).map (fun p => txnOf l p b0) = (ps.take i).map (fun p => txnOf l p b1) := List.map_congr_left fun p hp' => (txnOf_grow g (ih.typ p hp')).symm
            rw [htk, List.map_append]
            exact congrArg (· ++ [txnOf l ps[i] b1]) (htx.trans this)
          · intro p hp'
            rw [htk, List.mem_append, List.mem_singleton] at hp'
            rcases hp' with hp' | rfl
            · exact fun c hc => g.typed (ih.typ p hp' c hc)
            · exact hty
          · rw [gm, ih.mem, htk]
            simp only [List.mem_append, List.mem_singleton, or_and_right, exists_or, exists_eq_left]
end Go.Proofs.Ytjjmedgibcffhaa
/- What is built is sound: the book of the check follows the book of the build. -/
namespace Go.Proofs.Ytjjmedgibcffhaa
open Go.RowKit M
set_option linter.unusedSimpArgs false
set_option linter.unusedVariables false
def phi (l : List EventD) (ps : List PairD) (x : Int) : Int := if x < 0 then x else if x < ps.length then (ps.getD x.toNat ⟨0, 0, 0⟩).from_ else x + l.length
theorem phi_at {l : List EventD} {ps : List PairD} {i : Nat} (hi : i < ps.length) : phi l ps i = ps[i].from_ := by
  unfold phi
  rw [if_neg (by omega), if_pos (by omega)]
  simp [hi]
theorem phi_lt {l : List EventD} {ps : List PairD} {op : Int → Option Nat} (hF : FInv l l.length ps op) {i : Nat} (hi : i < ps.length) : 0 ≤ phi l ps i ∧ phi l ps i < l.length := by
  rw [phi_at hi]
  have := (hF.frm i hi).1
  omega
theorem phi_inj {l : List EventD} {ps : List PairD} {op : Int → Option Nat} (hF : FInv l l.length ps op) (x y : Int) (h : phi l ps x = phi l ps y) : x = y := by
  have neg : ∀ z : Int, z < 0 → phi l ps z = z := fun z hz => by unfold phi; rw [if_pos hz]
  have big : ∀ z : Int, ps.length ≤ z → phi l ps z = z + l.length := fun z hz => by unfold phi; rw [if_neg (by omega), if_neg (by omega)]
  have mid : ∀ z : Int, 0 ≤ z → z < ps.length → ∃ i : Nat, z = i ∧ i < ps.length := fun z h0 h1 => ⟨z.toNat, by omega, by omega⟩
  have cas : ∀ z : Int, z < 0 ∨ (ps.length : Int) ≤ z ∨ ∃ i : Nat, z = i ∧ i < ps.length := fun z => by
    rcases Int.lt_or_le z 0 with h0 | h0
    · exact .inl h0
    · rcases Int.lt_or_le z ps.length with h1 | h1
      · exact .inr (.inr (mid z h0 h1))
      · exact .inr (.inl h1)
  rcases cas x with hx | hx | ⟨i, rfl, hi⟩
  · rw [neg x hx] at h
    rcases cas y with hy | hy | ⟨j, rfl, hj⟩
    · rw [neg y hy] at h; exact h
    · rw [big y hy] at h; omega
    · have := phi_lt hF hj; omega
  · rw [big x hx] at h
    rcases cas y with hy | hy | ⟨j, rfl, hj⟩
    · rw [neg y hy] at h; omega
    · rw [big y hy] at h; omega
    · have := phi_lt hF hj; omega
  · have h1 := phi_lt hF hi
    rcases cas y with hy | hy | ⟨j, rfl, hj⟩
    · rw [neg y hy] at h; omega
    · rw [big y hy] at h; omega
    · rw [phi_at hi, phi_at hj] at h
      rcases Nat.lt_trichotomy i j with h2 | h2 | h2
      · have := hF.inc i j hi hj h2; omega
      · rw [h2]
      · have := hF.inc j i hj hi h2; omega
theorem callOf_opOf {b : Bk} {c : CallD} (h : Typed b c) : callOf' b.keys (opOf b c) = c ∧ okKey b.keys.length (opOf b c) = true := by
  obtain ⟨k, h1, _⟩ := h
  obtain ⟨h2, h3, _⟩ := findN_some h1
  constructor
  · unfold callOf' opOf
    simp only [h1, Option.getD_some, Int.toNat_natCast]
    have : b.keys.getD k ByteArray.empty = c.key := by simp [h2, h3]
    rw [this]
  · unfold okKey opOf
    simp only [h1, Option.getD_some]
    rw [decide_eq_true_eq]
    omega
theorem evOf_txn {l : List EventD} {p : PairD} {b : Bk} (ht : ∀ c ∈ callsFor l p, Typed b c) : evOf b.keys (txnOf l p b) = ⟨0, p.status, callsFor l p⟩ ∧ (txnOf l p b).ops.all (okKey b.keys.length) = true := by
  have hall : ∀ o ∈ (txnOf l p b).ops, okKey b.keys.length o = true := by
    intro o ho
    simp only [txnOf, List.mem_map] at ho
    obtain ⟨c, hc, rfl⟩ := ho
    exact (callOf_opOf (ht c hc)).2
  refine ⟨?_, List.all_eq_true.2 hall⟩
  unfold evOf
  rw [(takeWhile_good (okKey b.keys.length) (txnOf l p b).ops (fun i hi => hall _ (List.getElem_mem _))).1]
  simp only [txnOf, List.map_map]
  congr 1
  have : (callsFor l p).map (callOf' b.keys ∘ opOf b) = (callsFor l p).map id := List.map_congr_left fun c hc => (callOf_opOf (ht c hc)).1
  rw [this, List.map_id]
theorem callOk_other {c : CallD} {a b : Int} (ha : a ≠ 1) (hb : b ≠ 1) : callOk c a = callOk c b := by
  have h1 : (a == 1) = false := by simpa using ha
  have h2 : (b == 1) = false := by simpa using hb
  unfold callOk
  rw [h1, h2]
theorem status_ok {l : List EventD} {ps : List PairD} (hp : pairsF l = .ok ps) {i : Nat} (hi : i < ps.length) : 1 ≤ ps[i].status ∧ ps[i].status ≤ 3 ∧ (ps[i].to_ = -1 → ps[i].status = 3) ∧ (ps[i].to_ ≠ -1 → (ps[i].from_ : Int) < ps[i].to_) ∧ -1 ≤ ps[i].to_ ∧ ps[i].to_ < l.length ∧ eventOk ⟨0, ps[i].status, callsFor l ps[i]⟩ = true := by
  obtain ⟨op, hF⟩ := pairsF_finv hp
  obtain ⟨hok, _⟩ := pairsF_ok hp
  have hpo := pair_ok hp hi
  have h16 := hpo.calls16
  have hfr := hF.frm i hi
  have hev : ∀ (e : EventD), eventOk e = true → e.kind = ps[i].status → (callsFor l ps[i] = e.calls) → eventOk ⟨0, ps[i].status, callsFor l ps[i]⟩ = true := by
    intro e h1 h2 h3
    rw [h3, ← h2]
    unfold eventOk at h1 ⊢
    exact h1
  have hinv : 1 ≤ ps[i].status → ps[i].status ≤ 3 → ps[i].status ≠ 1 → eventOk ⟨0, ps[i].status, callsFor l ps[i]⟩ = true := by
    intro h1 h2 h3
    have hc : callsFor l ps[i] = (ev l ps[i].from_).calls := by unfold callsFor; rw [if_neg h3]
    have h4 := eventOk_spec hpo.fok
    unfold eventOk
    simp only [Bool.and_eq_true, decide_eq_true_eq, List.all_eq_true]
    refine ⟨⟨⟨by omega, h2⟩, h16⟩, fun c hc' => ?_⟩
    rw [callOk_other h3 (b := 0) (by omega)]
    rw [hc] at hc'
    have := h4.2.2.2 c hc'
    rw [hfr.2] at this
    exact this
  rcases hF.to_ i hi with ⟨h1, h2⟩ | ⟨t, h1, h2, h3, h4, h5, h6, h7⟩
  · exact ⟨by omega, by omega, fun _ => h2, fun h => absurd h1 h, by omega, by omega, hinv (by omega) (by omega) (by omega)⟩
  · have h8 := listOk_ev hok h3
    have h9 := eventOk_spec h8
    refine ⟨by omega, by omega, fun h => by omega, fun _ => by omega, by omega, by omega, ?_⟩
    by_cases hs : ps[i].status = 1
    · refine hev _ h8 h4 ?_
      unfold callsFor
      rw [if_pos hs, h1, Int.toNat_natCast]
    · exact hinv (by omega) (by omega) hs
section
variable {l : List EventD} {ps : List PairD} {b : Bk} {ts : List TxnD}
theorem txns_get (hp : pairsF l = .ok ps) (hb : buildSt l ps ps.length = .ok (b, ts)) : ts.length = ps.length ∧ ∀ i (hi : i < ps.length) (hi' : i < ts.length), ts[i] = txnOf l ps[i] b := by
  have hB := (built hp (Nat.le_refl _) hb).txns
  rw [List.take_length] at hB
  subst hB
  exact ⟨by simp, fun i hi hi' => by simp⟩
theorem placed_build (hp : pairsF l = .ok ps) (hb : buildSt l ps ps.length = .ok (b, ts)) {i : Nat} (hi : i < ps.length) (hi' : i < ts.length) : placedB (ts.take i) ts[i] = true := by
  obtain ⟨hl, hg⟩ := txns_get hp hb
  obtain ⟨op, hF⟩ := pairsF_finv hp
  obtain ⟨s1, s2, s3, s4, s5, s6, s7⟩ := status_ok hp hi
  have hmem : ∀ o ∈ ts.take i, ∃ j, ∃ hj : j < ps.length, j < i ∧ o = txnOf l ps[j] b := by
    intro o ho
    obtain ⟨j, hj, rfl⟩ := List.mem_take_iff_getElem.1 ho
    exact ⟨j, by omega, by omega, hg j (by omega) (by omega)⟩
  unfold placedB
  rw [hg i hi hi', Bool.and_eq_true, Bool.not_eq_true']
  constructor
  · rw [decide_eq_true_eq]
    refine ⟨s1, s2, by simp [txnOf], s3, s4, fun o ho => ?_⟩
    obtain ⟨j, hj, hji, rfl⟩ := hmem o (List.mem_of_getLast? ho)
    have := hF.inc j i hj hi hji
    simp only [txnOf]
    omega
  · rw [List.any_eq_false]
    intro o ho
    obtain ⟨j, hj, hji, rfl⟩ := hmem o ho
    unfold busyB
    simp only [txnOf, Bool.and_eq_true, Bool.or_eq_true, decide_eq_true_eq]
    rintro ⟨h1, h2⟩
    have h1' := hF.seq j i hj hi hji (of_decide_eq_true h1)
    rcases h2 with h2 | h2 <;> (have h2 := of_decide_eq_true h2; omega)
theorem checkSt_build (hp : pairsF l = .ok ps) (hb : buildSt l ps ps.length = .ok (b, ts)) : ∀ {i : Nat}, i ≤ ps.length → ∃ bi tsi b', buildSt l ps i = .ok (bi, tsi) ∧ checkSt ⟨b.keys, ts⟩ i = some b' ∧ b'.ren (phi l ps) = bi
  | 0, _ => ⟨.empty, [], .empty, rfl, rfl, rfl⟩
  | i + 1, hi => by
    obtain ⟨bi, tsi, b', h1, h2, h3⟩ := checkSt_build hp hb (i := i) (by omega)
    obtain ⟨hl, hg⟩ := txns_get hp hb
    obtain ⟨op, hF⟩ := pairsF_finv hp
    have hit : i < ts.length := by omega
    have hB := built hp (Nat.le_refl _) hb
    have hpo := pair_ok hp (i := i) (by omega)
    have hty : ∀ c ∈ callsFor l ps[i], Typed b c := hB.typ _ (by rw [List.take_length]; exact List.getElem_mem _)
    cases hs : buildSt l ps (i + 1) with
    | error e => rw [buildSt_bad hs hi] at hb; cases hb
    | ok s =>
      obtain ⟨b1, ts1⟩ := s
      rw [buildSt_succ h1 (by omega)] at hs
      unfold buildStep at hs
      split at hs
      · cases hs
      · cases he : entersE bi (ev l ps[i].from_).calls ps[i].from_ with
        | error e => rw [he] at hs; cases hs
        | ok b2 =>
          rw [he] at hs
          simp only [Except.ok.injEq, Prod.mk.injEq] at hs
          obtain ⟨rfl, rfl⟩ := hs
          have hr := entersE_ren (phi_inj hF) (ev l ps[i].from_).calls b' i
          rw [h3, phi_at (by omega), he] at hr
          cases hq : entersE b' (ev l ps[i].from_).calls i with
          | error e => rw [hq] at hr; cases hr
          | ok b3 =>
            rw [hq] at hr
            simp only [renE, Except.ok.injEq] at hr
            refine ⟨b2, _, b3, rfl, ?_, hr.symm⟩
            rw [checkSt, h2]
            show stepT _ i b' = _
            rw [stepT_get (h := ⟨b.keys, ts⟩) hit]
            have hti : (⟨b.keys, ts⟩ : HistD).txns[i] = txnOf l ps[i] b := hg i (by omega) hit
            have hpl : placedB ((⟨b.keys, ts⟩ : HistD).txns.take i) (⟨b.keys, ts⟩ : HistD).txns[i] = true := placed_build hp hb (by omega) hit
            obtain ⟨e1, e2⟩ := evOf_txn hty
            have hev : evOkB b.keys (txnOf l ps[i] b) = true := by
              rw [evOkB, e1, e2, Bool.true_and]
              exact (status_ok hp (by omega)).2.2.2.2.2.2
            rw [hpl, hti]
            simp only [hev, Bool.and_self, if_true, e1]
            refine enters_of ?_
            rw [← entersE_strip, hpo.strip, entersE_strip]
            exact hq
theorem key_size (hp : pairsF l = .ok ps) (hb : buildSt l ps ps.length = .ok (b, ts)) : ∀ s ∈ b.keys, 1 ≤ s.size ∧ s.size ≤ 32 := by
  intro s hs
  obtain ⟨p, hpm, c, hc, rfl⟩ := ((built hp (Nat.le_refl _) hb).mem s).1 hs
  rw [List.take_length] at hpm
  obtain ⟨i, hi, rfl⟩ := List.getElem_of_mem hpm
  have h1 := (eventOk_spec (pair_ok hp hi).fok).2.2.2 c hc
  unfold callOk at h1
  split at h1
  · cases h1
  · split at h1
    · cases h1
    · split at h1
      · cases h1
      · rename_i hne
        split at h1
        · cases h1
        · rename_i h32
          refine ⟨?_, by omega⟩
          rcases Nat.eq_zero_or_pos c.key.size with h0 | h0
          · exfalso
            apply hne
            have hl : c.key.toList.length = 0 := by rw [ByteArray.toList_eq, Array.length_toList]; exact h0
            rw [List.isEmpty_iff]
            exact List.eq_nil_of_length_eq_zero hl
          · exact h0
theorem names_build (hp : pairsF l = .ok ps) (hb : buildSt l ps ps.length = .ok (b, ts)) : namesB b.keys = true := by
  have hB := built hp (Nat.le_refl _) hb
  have hw := (buildSt_wf hp (Nat.le_refl _) hb).1.keys
  rw [names_good]
  · simpa using hw
  · intro i hi
    rw [nameB_get hi]
    obtain ⟨h1, h2⟩ := key_size hp hb _ (List.getElem_mem hi)
    have h3 : findN (b.keys.take i) b.keys[i] = none := by
      refine findN_no _ _ fun hm => ?_
      obtain ⟨j, hj, he⟩ := List.mem_take_iff_getElem.1 hm
      have := (List.pairwise_iff_getElem.1 hB.nodup) j i (by omega) hi (by omega)
      exact this he
    simp [h1, h2, h3]
theorem check_build (hp : pairsF l = .ok ps) (hb : buildSt l ps ps.length = .ok (b, ts)) : checkB ⟨b.keys, ts⟩ = true := by
  obtain ⟨hl, _⟩ := txns_get hp hb
  have h32 := (buildSt_wf hp (Nat.le_refl _) hb).2.2
  obtain ⟨bi, tsi, b', h1, h2, h3⟩ := checkSt_build hp hb (Nat.le_refl _)
  rw [checkB, Bool.and_eq_true, Bool.and_eq_true]
  refine ⟨⟨names_build hp hb, ?_⟩, ?_⟩
  · show decide (ts.length ≤ 32) = true
    rw [decide_eq_true_eq]; omega
  · show (checkSt _ ts.length).isSome = true
    rw [hl, h2]
    rfl
theorem type_build (hp : pairsF l = .ok ps) (hb : buildSt l ps ps.length = .ok (b, ts)) {p : PairD} (hpm : p ∈ ps) {c : CallD} (hc : c ∈ callsFor l p) : typeF ⟨b.keys, ts⟩ (opOf b c).key = tyOf c.kind := by
  have hB := built hp (Nat.le_refl _) hb
  have htx := hB.txns
  rw [List.take_length] at htx
  have hty : ∀ p ∈ ps, ∀ c ∈ callsFor l p, Typed b c := by have := hB.typ; rwa [List.take_length] at this
  have hops : ∀ o, o ∈ allOps ⟨b.keys, ts⟩ ↔ ∃ p ∈ ps, ∃ c ∈ callsFor l p, opOf b c = o := by
    intro o
    simp only [allOps, htx, List.mem_flatMap, List.mem_map]
    constructor
    · rintro ⟨t, ⟨p, hp1, rfl⟩, ho⟩
      simp only [txnOf, List.mem_map] at ho
      exact ⟨p, hp1, ho⟩
    · rintro ⟨p, hp1, ho⟩
      exact ⟨_, ⟨p, hp1, rfl⟩, by simp only [txnOf, List.mem_map]; exact ho⟩
  rw [typeF, if_pos (check_build hp hb)]
  cases hf : (allOps ⟨b.keys, ts⟩).find? (fun o => decide (o.key = (opOf b c).key)) with
  | none =>
    exfalso
    rw [List.find?_eq_none] at hf
    have := hf (opOf b c) ((hops _).2 ⟨p, hpm, c, hc, rfl⟩)
    simp at this
  | some o =>
    have h1 := List.find?_some hf
    have h2 := List.mem_of_find?_eq_some hf
    obtain ⟨p', hp', c', hc', rfl⟩ := (hops o).1 h2
    simp only [decide_eq_true_eq] at h1
    obtain ⟨k, hk, ht⟩ := hty p hpm c hc
    obtain ⟨k', hk', ht'⟩ := hty p' hp' c' hc'
    simp only [opOf, hk, hk', Option.getD_some, Int.natCast_inj] at h1
    subst h1
    show tyOf c'.kind = _
    rw [← ht', ht]
theorem hist_build (hok : SlOk EventOk 40 l) (hp : pairsF l = .ok ps) (hb : buildSt l ps ps.length = .ok (b, ts)) : HistOk ⟨b.keys, ts⟩ := by
  have hB := buildF_b hok
  rw [buildF_ok hp hb] at hB
  obtain ⟨hb1, hb2, hb3⟩ := hB
  obtain ⟨hl, hg⟩ := txns_get hp hb
  have hll := hok.1
  have hty := (built hp (Nat.le_refl _) hb).typ
  refine ⟨⟨hb1, fun s hs => ?_⟩, ⟨hb2, fun t ht => ?_⟩⟩
  · have := key_size hp hb s hs
    show s.size ≤ _
    omega
  · obtain ⟨i, hi, rfl⟩ := List.getElem_of_mem ht
    have hi' : i < ps.length := by
      have : i < ts.length := hi
      omega
    have hpo := pair_ok hp hi'
    obtain ⟨s1, s2, s3, s4, s5, s6, s7⟩ := status_ok hp hi'
    have hfl := hpo.frm
    have e : (⟨b.keys, ts⟩ : HistD).txns[i] = txnOf l ps[i] b := hg i hi' hi
    have hTB := hb3 _ ht
    rw [e] at hTB ⊢
    refine ⟨?_, wf64 ?_ ?_, wf64 ?_ ?_, wf64 ?_ ?_, ?_, ?_⟩
    · show IntOk .i64 (ev l ps[i].from_).proc
      rw [ev_eq hfl]
      exact (hok.2 _ (List.getElem_mem _)).1
    · show _ ≤ ps[i].status
      omega
    · show ps[i].status ≤ _
      omega
    · show _ ≤ (ps[i].from_ : Int)
      omega
    · show (ps[i].from_ : Int) ≤ _
      omega
    · show _ ≤ ps[i].to_
      omega
    · show ps[i].to_ ≤ _
      omega
    · exact hTB.1
    · intro o ho
      simp only [txnOf, List.mem_map] at ho
      obtain ⟨c, hc, rfl⟩ := ho
      have hco := callsFor_ok hok hpo c hc
      obtain ⟨k, hk, _⟩ := hty _ (by rw [List.take_length]; exact List.getElem_mem hi') c hc
      have hkl := findN_lt hk
      refine ⟨hco.1, ?_, hco.2.2.1, hco.2.2.2⟩
      show IntOk .i64 (((findN b.keys c.key).getD 0 : Nat) : Int)
      rw [hk]
      have hb1' : b.keys.length * 16 ≤ _ := hb1
      exact wf64 (by simp only [Option.getD_some]; omega) (by simp only [Option.getD_some]; omega)
end
theorem build_err {l : List EventD} {ps : List PairD} (i : Nat) {e : Int × Int} (h : buildSt l ps i = .error e) : e.1 ≠ 0 := by
  induction i with
  | zero => cases h
  | succ i ih =>
    rw [buildSt] at h
    cases h0 : buildSt l ps i with
    | error e' =>
      rw [h0] at h
      simp only [Except.error.injEq] at h
      subst h
      exact ih h0
    | ok s =>
      rw [h0] at h
      obtain ⟨b, ts⟩ := s
      simp only at h
      split at h
      · cases h
      · unfold buildStep at h
        split at h
        · simp only [Except.error.injEq] at h; subst h; simp
        · rename_i p _ _
          cases he : entersE b (ev l p.from_).calls p.from_ with
          | ok b' => rw [he] at h; cases h
          | error e' =>
            rw [he] at h
            simp only [Except.error.injEq] at h
            subst h
            exact enters_err _ he
where
  enters_err : ∀ (cs : List CallD) {b : Bk} {who e : Int}, entersE b cs who = .error e → e ≠ 0
    | [], b, who, e, h => by cases h
    | c :: r, b, who, e, h => by
      simp only [entersE] at h
      cases he : enterB b c who with
      | ok b' => rw [he] at h; exact enters_err r h
      | error e' =>
        rw [he] at h
        simp only [Except.error.injEq] at h
        subst h
        unfold enterB at he
        cases ha : addB b c with
        | none => rw [ha] at he; simp only [Except.error.injEq] at he; omega
        | some q =>
          rw [ha] at he
          simp only at he
          unfold putB at he
          repeat' split at he
          all_goals first | (cases he; done) | (simp only [Except.error.injEq] at he; subst he; decide)
theorem build_cases (l : List EventD) : (∃ e : Int × Int, e.1 ≠ 0 ∧ buildF l = (⟨[], []⟩, e)) ∨ ∃ ps b ts, pairsF l = .ok ps ∧ buildSt l ps ps.length = .ok (b, ts) := by
  cases hp : pairsF l with
  | error e =>
    refine .inl ⟨e, ?_, by rw [buildF, hp]⟩
    obtain ⟨_, ps, h2⟩ | ⟨_, h2⟩ | ⟨j, _, h2, _⟩ := flOf_cases l
    · rw [hp] at h2; cases h2
    · rw [hp] at h2; injection h2 with h2; rw [h2]; decide
    · rw [hp] at h2; injection h2 with h2; rw [h2]; show (40 : Int) ≠ 0; decide
  | ok ps =>
    cases hb : buildSt l ps ps.length with
    | error e => exact .inl ⟨e, build_err _ hb, by rw [buildF, hp]; simp only; rw [hb]⟩
    | ok s => exact .inr ⟨ps, s.1, s.2, rfl, by rw [hb]⟩
end Go.Proofs.Ytjjmedgibcffhaa
/- The history of the first events is the beginning of the history of all: plain laws. -/
namespace Go.Proofs.Ytjjmedgibcffhaa
open Go.RowKit M
set_option linter.unusedSimpArgs false
set_option linter.unusedVariables false
/-- What may have changed in the pairs since n events were read. -/
structure Later (n : Nat) (ps ps2 : List PairD) : Prop where
  len : ps.length ≤ ps2.length
  frm : ∀ k (h : k < ps.length) (h2 : k < ps2.length), ps2[k].from_ = ps[k].from_
  set : ∀ k (h : k < ps.length) (h2 : k < ps2.length), ps[k].to_ ≠ -1 → ps2[k] = ps[k]
  opn : ∀ k (h : k < ps.length) (h2 : k < ps2.length), ps[k].to_ = -1 → ps2[k].to_ = -1 ∨ (n : Int) ≤ ps2[k].to_
theorem Later.refl (n : Nat) (ps : List PairD) : Later n ps ps := ⟨Nat.le_refl _, fun _ _ _ => rfl, fun _ _ _ _ => rfl, fun _ _ _ h => .inl h⟩
theorem pairsSt_later {l : List EventD} {n : Nat} {ps : List PairD} {op : Int → Option Nat} (hn : pairsSt l n = .ok (ps, op)) : ∀ {j : Nat} {ps2 : List PairD} {op2 : Int → Option Nat}, n ≤ j → j ≤ l.length → pairsSt l j = .ok (ps2, op2) → Later n ps ps2 := by
  intro j
  induction j with
  | zero =>
    intro ps2 op2 h1 _ h2
    obtain rfl : n = 0 := by omega
    rw [hn] at h2
    simp only [Except.ok.injEq, Prod.mk.injEq] at h2
    obtain ⟨rfl, rfl⟩ := h2
    exact Later.refl _ _
  | succ j ih =>
    intro ps2 op2 h1 h3 h2
    rcases Nat.lt_or_ge j n with h4 | h4
    · obtain rfl : n = j + 1 := by omega
      rw [hn] at h2
      simp only [Except.ok.injEq, Prod.mk.injEq] at h2
      obtain ⟨rfl, rfl⟩ := h2
      exact Later.refl _ _
    · have hjl : j < l.length := by omega
      cases hst : pairsSt l j with
      | error e => simp only [pairsSt, hst] at h2; cases h2
      | ok s =>
        obtain ⟨ps1, op1⟩ := s
        have hi := ih h4 (by omega) hst
        have hF := pairsSt_finv l j ps1 op1 hst (by omega)
        rw [pairsSt_succ hst hjl] at h2
        cases hs : pairStep l j l[j] ps1 op1 with
        | none => rw [hs] at h2; cases h2
        | some s' =>
          rw [hs] at h2
          injection h2 with h2
          subst h2
          cases ho : op1 l[j].proc with
          | none =>
            obtain ⟨_, rfl, rfl⟩ := pairStep_push ho hs
            have old : ∀ (k : Nat) (h : k < ps1.length) (h2 : k < (ps1 ++ [(⟨j, -1, 3⟩ : PairD)]).length), (ps1 ++ [(⟨j, -1, 3⟩ : PairD)])[k] = ps1[k] := fun k hk _ => List.getElem_append_left hk
            have hl := hi.len
            refine ⟨by simp; omega, fun k h h2 => ?_, fun k h h2 h5 => ?_, fun k h h2 h5 => ?_⟩
            · rw [old k (by omega)]; exact hi.frm k h (by omega)
            · rw [old k (by omega)]; exact hi.set k h (by omega) h5
            · rw [old k (by omega)]; exact hi.opn k h (by omega) h5
          | some q =>
            obtain ⟨_, hq, hf, hm, rfl, rfl⟩ := pairStep_set ho hs
            obtain ⟨_, hto, _⟩ := (hF.opn _ q).1 ho
            have hl := hi.len
            have old : ∀ (k : Nat) (h : k < ps1.length) (h2 : k < (ps1.set q ⟨ps1[q].from_, j, l[j].kind⟩).length), k ≠ q → (ps1.set q ⟨ps1[q].from_, j, l[j].kind⟩)[k] = ps1[k] := fun k _ _ hne => by rw [List.getElem_set, if_neg (fun e => hne e.symm)]
            have new : ∀ (h2 : q < (ps1.set q ⟨ps1[q].from_, j, l[j].kind⟩).length), (ps1.set q ⟨ps1[q].from_, j, l[j].kind⟩)[q] = ⟨ps1[q].from_, j, l[j].kind⟩ := fun _ => by simp
            refine ⟨by simp; omega, fun k h h2 => ?_, fun k h h2 h5 => ?_, fun k h h2 h5 => ?_⟩
            · by_cases e : k = q
              · subst e
                rw [new]
                exact hi.frm k h (by omega)
              · rw [old k (by omega) h2 e]; exact hi.frm k h (by omega)
            · by_cases e : k = q
              · subst e
                have := hi.set k h (by omega) h5
                rw [this] at hto
                exact absurd hto h5
              · rw [old k (by omega) h2 e]; exact hi.set k h (by omega) h5
            · by_cases e : k = q
              · subst e
                rw [new]
                right
                show (n : Int) ≤ (j : Int)
                omega
              · rw [old k (by omega) h2 e]; exact hi.opn k h (by omega) h5
theorem ev_take {l : List EventD} {n i : Nat} (h : i < n) : ev (l.take n) i = ev l i := by
  unfold ev
  simp only [List.getD_eq_getElem?_getD, List.getElem?_take, if_pos h]
/-- Both lists of pairs. -/
theorem pairs_take {l : List EventD} {ps : List PairD} (hp : pairsF l = .ok ps) {n : Nat} (hn : n ≤ l.length) : ∃ ps', pairsF (l.take n) = .ok ps' ∧ Later n ps' ps ∧ ∀ k (h : k < ps'.length), ps'[k].from_ < n := by
  obtain ⟨ps', hp'⟩ := take_ok hp n hn
  obtain ⟨_, op, hst⟩ := pairsF_ok hp
  obtain ⟨_, op', hst'⟩ := pairsF_ok hp'
  have hl : (l.take n).length = n := by simp; omega
  rw [hl, pairsSt_take l n n (Nat.le_refl _) hn] at hst'
  refine ⟨ps', hp', pairsSt_later hst' hn (Nat.le_refl _) hst, fun k h => ?_⟩
  exact ((pairsSt_finv l n ps' op' hst' hn).frm k h).1
theorem build_take {l : List EventD} {ps ps' : List PairD} {n : Nat} (hL : Later n ps' ps) (hf : ∀ k (h : k < ps'.length), ps'[k].from_ < n) : ∀ {i : Nat} {b : Bk} {ts : List TxnD}, i ≤ ps'.length → buildSt l ps i = .ok (b, ts) → ∃ ts', buildSt (l.take n) ps' i = .ok (b, ts')
  | 0, b, ts, _, h => by
    simp only [buildSt, Except.ok.injEq, Prod.mk.injEq] at h
    obtain ⟨rfl, rfl⟩ := h
    exact ⟨[], rfl⟩
  | i + 1, b, ts, hi, h => by
    have hl := hL.len
    cases h0 : buildSt l ps i with
    | error e => rw [buildSt, h0] at h; cases h
    | ok s =>
      obtain ⟨b0, ts0⟩ := s
      obtain ⟨ts0', h0'⟩ := build_take hL hf (i := i) (by omega) h0
      rw [buildSt_succ h0 (by omega)] at h
      rw [buildSt_succ h0' (by omega)]
      have e1 := hL.frm i (by omega) (by omega)
      have e2 : ev (l.take n) ps'[i].from_ = ev l ps'[i].from_ := ev_take (hf i (by omega))
      unfold buildStep at h ⊢
      rw [e2]
      rw [e1] at h
      split at h
      · cases h
      · rename_i hne
        rw [if_neg hne]
        cases he : entersE b0 (ev l ps'[i].from_).calls ps'[i].from_ with
        | error e => rw [he] at h; cases h
        | ok b1 =>
          rw [he] at h
          simp only [Except.ok.injEq, Prod.mk.injEq] at h
          obtain ⟨rfl, rfl⟩ := h
          exact ⟨_, rfl⟩
theorem enterB_pre {b b' : Bk} {c : CallD} {who : Int} (h : enterB b c who = .ok b') : b.keys <+: b'.keys := by
  unfold enterB at h
  cases ha : addB b c with
  | none => rw [ha] at h; cases h
  | some p =>
    obtain ⟨b1, k⟩ := p
    rw [ha] at h
    rw [(putB_types h).1]
    unfold addB at ha
    split at ha
    · injection ha with ha
      injection ha with ha _
      subst ha
      exact List.prefix_refl _
    · split at ha
      · cases ha
      · injection ha with ha
        injection ha with ha _
        subst ha
        exact List.prefix_append _ _
theorem entersE_pre : ∀ (cs : List CallD) {b b' : Bk} {who : Int}, entersE b cs who = .ok b' → b.keys <+: b'.keys
  | [], b, b', who, h => by
    simp only [entersE, Except.ok.injEq] at h
    subst h
    exact List.prefix_refl _
  | c :: r, b, b', who, h => by
    simp only [entersE] at h
    cases he : enterB b c who with
    | error e => rw [he] at h; cases h
    | ok b1 =>
      rw [he] at h
      exact (enterB_pre he).trans (entersE_pre r h)
theorem buildSt_pre {l : List EventD} {ps : List PairD} {m : Nat} {b0 : Bk} {ts0 : List TxnD} (h0 : buildSt l ps m = .ok (b0, ts0)) : ∀ {i : Nat} {b : Bk} {ts : List TxnD}, m ≤ i → i ≤ ps.length → buildSt l ps i = .ok (b, ts) → b0.keys <+: b.keys := by
  intro i
  induction i with
  | zero =>
    intro b ts h1 _ h
    obtain rfl : m = 0 := by omega
    rw [h0] at h
    simp only [Except.ok.injEq, Prod.mk.injEq] at h
    rw [h.1]
    exact List.prefix_refl _
  | succ i ih =>
    intro b ts h1 h2 h
    rcases Nat.lt_or_ge i m with h3 | h3
    · obtain rfl : m = i + 1 := by omega
      rw [h0] at h
      simp only [Except.ok.injEq, Prod.mk.injEq] at h
      rw [h.1]
      exact List.prefix_refl _
    · cases hi : buildSt l ps i with
      | error e => rw [buildSt, hi] at h; cases h
      | ok s =>
        obtain ⟨b1, ts1⟩ := s
        rw [buildSt_succ hi (by omega)] at h
        unfold buildStep at h
        split at h
        · cases h
        · cases he : entersE b1 (ev l ps[i].from_).calls ps[i].from_ with
          | error e => rw [he] at h; cases h
          | ok b2 =>
            rw [he] at h
            simp only [Except.ok.injEq, Prod.mk.injEq] at h
            obtain ⟨rfl, _⟩ := h
            exact (ih h3 (by omega) hi).trans (entersE_pre _ he)
/-- What the law asks of two transactions. -/
structure Begins (n : Nat) (a b : TxnD) : Prop where
  frm : a.frm = b.frm
  proc : a.proc = b.proc
  ops : a.ops.length = b.ops.length
  set : a.to ≠ -1 → a.to = b.to
  opn : a.to = -1 → b.to < 0 ∨ (n : Int) ≤ b.to
theorem begins_build {l : List EventD} {ps : List PairD} {b : Bk} {ts : List TxnD} (hp : pairsF l = .ok ps) (hb : buildSt l ps ps.length = .ok (b, ts)) {n : Nat} (hn : n ≤ l.length) :
    ∃ g : HistD, buildF (l.take n) = (g, 0, 0) ∧ g.keys <+: b.keys ∧ g.keys.length ≤ 32 ∧ g.txns.length ≤ ts.length ∧ ∀ k (h : k < g.txns.length) (h2 : k < ts.length), Begins n g.txns[k] ts[k] := by
  obtain ⟨ps', hp', hL, hf⟩ := pairs_take hp hn
  have hl := hL.len
  obtain ⟨s, hs⟩ : ∃ s, buildSt l ps ps'.length = .ok s := by
    cases h : buildSt l ps ps'.length with
    | error e => rw [buildSt_bad h hl] at hb; cases hb
    | ok s => exact ⟨s, rfl⟩
  obtain ⟨b', ts1⟩ := s
  obtain ⟨ts', hs'⟩ := build_take hL hf (Nat.le_refl _) hs
  obtain ⟨hl1, hg1⟩ := txns_get hp hb
  obtain ⟨hl2, hg2⟩ := txns_get hp' hs'
  refine ⟨⟨b'.keys, ts'⟩, buildF_ok hp' hs', buildSt_pre hs hl (Nat.le_refl _) hb, (buildSt_wf hp' (Nat.le_refl _) hs').1.keys, by show ts'.length ≤ _; omega, fun k h h2 => ?_⟩
  have h' : k < ts'.length := h
  have hk' : k < ps'.length := by omega
  have hk : k < ps.length := by omega
  have e1 := hL.frm k hk' hk
  have e2 : ev (l.take n) ps'[k].from_ = ev l ps'[k].from_ := ev_take (hf k hk')
  have e3 : (⟨b'.keys, ts'⟩ : HistD).txns[k] = txnOf (l.take n) ps'[k] b' := hg2 k hk' h'
  rw [e3, hg1 k hk h2]
  have s1 := congrArg List.length (pair_ok hp hk).strip
  have s2 := congrArg List.length (pair_ok hp' hk').strip
  simp only [List.length_map] at s1 s2
  refine ⟨?_, ?_, ?_, fun h5 => ?_, fun h5 => ?_⟩
  · show (ps'[k].from_ : Int) = ps[k].from_
    rw [e1]
  · show (ev _ _).proc = (ev _ _).proc
    rw [e2, e1]
  · simp only [txnOf, List.length_map]
    rw [s1, s2, e2, e1]
  · have h5' : ps'[k].to_ ≠ -1 := h5
    show ps'[k].to_ = ps[k].to_
    rw [hL.set k hk' hk h5']
  · have h5' : ps'[k].to_ = -1 := h5
    have h6 := hL.opn k hk' hk h5'
    show ps[k].to_ < 0 ∨ (n : Int) ≤ ps[k].to_
    omega
/-- Which beginning is asked for. -/
theorem pick_n (k : Int) (m : Nat) (hm : m * 40 ≤ 140737488351232) : ∃ n : Nat, (IntKind.u64.wrap k).tmod ((m : Int) + 1) = (n : Int) ∧ n ≤ m := by
  have h1 : IntKind.u64.wrap k = k % 18446744073709551616 := by simp [IntKind.wrap, IntKind.bits, IntKind.signed]
  have h2 : 0 ≤ k % 18446744073709551616 := by omega
  rw [h1, Int.tmod_eq_emod_of_nonneg h2]
  have h3 := Int.emod_nonneg (k % 18446744073709551616) (show (m : Int) + 1 ≠ 0 by omega)
  have h4 := Int.emod_lt_of_pos (k % 18446744073709551616) (show (0 : Int) < (m : Int) + 1 by omega)
  exact ⟨((k % 18446744073709551616) % ((m : Int) + 1)).toNat, by omega, by omega⟩
end Go.Proofs.Ytjjmedgibcffhaa
/- Writers, both ways; Type of the reference. -/
namespace Go.Proofs.Ytjjmedgibcffhaa
open Go.RowKit M
set_option linter.unusedSimpArgs false
set_option linter.unusedVariables false
def writesB (h : HistD) (key : Int) (i : Nat) : Bool := match h.txns[i]? with | some t => decide (t.status ≠ 2) && decide (0 < (wroteL t.ops key).length) | none => false
def writersL (h : HistD) (key : Int) (n : Nat) : List Int := ((List.range n).filter (writesB h key)).map fun (i : Nat) => (i : Int)
noncomputable def writersF (h : HistD) (key : Int) : List Int := if checkB h = true then writersL h key h.txns.length else []
theorem writersL_step (h : HistD) (key : Int) (n : Nat) : writersL h key (n + 1) = writersL h key n ++ if writesB h key n then [(n : Int)] else [] := by
  rw [writersL, List.range_succ, List.filter_append, List.map_append]
  congr 1
  by_cases hp : writesB h key n = true
  · simp [hp]
  · simp [hp]
theorem writersL_len (h : HistD) (key : Int) (n : Nat) : (writersL h key n).length ≤ n := by
  have := List.length_filter_le (writesB h key) (List.range n)
  simpa [writersL] using this
set_option maxHeartbeats 8000000 in
theorem writers40 (h : HistD) (hh : HistOk h) (key : Int) : PureC Try.prog 40 [.d (encHist h), .d (.int .i64 key)] (.d (ints (writersF h key))) := by
  intro S
  refine CallM.pure' (by rfl) (CallM.start (n := 35) Try.func40 rfl rfl (by simp) (by simp only [argL, Nat.reduceAdd] <;> rfl) ?_)
  intro hH
  obtain ⟨H, hHe⟩ : ∃ H, H = S.get := ⟨_, rfl⟩
  obtain ⟨n0, hne⟩ : ∃ n0, n0 = S.next := ⟨_, rfl⟩
  rw [← hHe, ← hne] at hH ⊢
  have hb := hh.b
  have hlen := hb.len
  have hck := check32 h hh
  cases hok : checkB h with
  | false =>
    rw [hok, errno_f] at hck
    have hr : writersF h key = [] := by rw [writersF, hok]; rfl
    rw [hr]
    ((repeat refine WpM.seq ?_); have z_ex := (And.intro @encHist.eq_1 True.intro); refine WpM.regPE [] [(1, _), (2, _)] (by (refine s_o [(0, _)] rfl rfl rfl z_su rfl q_box z_fp z_ss ?_; refine s_o [] rfl rfl rfl z_su rfl q_move z_fp z_ss ?_; exact wpS_nil ⟨rfl, rfl⟩)) z_su ?_; clear z_ex)
    ((repeat refine WpM.seq ?_); have z_ex := True.intro; refine WpM.regPE [] [(1, _), (2, _), (10, _)] (by (refine s_o [(2, _)] rfl rfl rfl z_su rfl q_load z_fp z_ss ?_; refine s_pure (callOf_eq rfl rfl rfl (mlk_tmp z_lk mlk_nil)) (hck) rfl rfl z_ip z_fp ?_; refine s_o [(9, _)] rfl rfl rfl z_su rfl q_full z_fp z_ss ?_; exact wpS_nil ⟨rfl, rfl⟩)) z_su ?_; clear z_ex)
    ((repeat refine WpM.seq ?_); refine WpM.condT (by (simp (maxSteps := 2000000) (disch := omega) [go_sem, -List.map_map])) ?_)
    ((repeat refine WpM.seq ?_); have z_ex := True.intro; refine WpM.regPE [] [(4, _)] (by (refine s_o [] rfl rfl rfl z_su rfl q_move z_fp z_ss ?_; exact wpS_nil ⟨rfl, rfl⟩)) z_su ?_; clear z_ex)
    refine WpM.ret ?_
    refine ⟨.inr rfl, Upd.pureNil 4 (.inl (by (simp (maxSteps := 2000000) (disch := omega) [go_sem, -List.map_map]))) (Upd.done ⟨_, (by (simp (maxSteps := 2000000) (disch := omega) [go_sem, -List.map_map, resV, resVs, resV1, fset, ints])), rfl, fun m k _ hk => ?_⟩)⟩
    have := hH _ _ hk
    (simp (maxSteps := 2000000) (disch := omega) [go_sem, -List.map_map, hk])
  | true =>
    rw [hok, errno_t] at hck
    have hr : writersF h key = writersL h key h.txns.length := by rw [writersF, if_pos hok]
    rw [hr]
    ((repeat refine WpM.seq ?_); have z_ex := (And.intro @encHist.eq_1 True.intro); refine WpM.regPE [] [(1, _), (2, _)] (by (refine s_o [(0, _)] rfl rfl rfl z_su rfl q_box z_fp z_ss ?_; refine s_o [] rfl rfl rfl z_su rfl q_move z_fp z_ss ?_; exact wpS_nil ⟨rfl, rfl⟩)) z_su ?_; clear z_ex)
    ((repeat refine WpM.seq ?_); have z_ex := True.intro; refine WpM.regPE [] [(1, _), (2, _), (10, _)] (by (refine s_o [(2, _)] rfl rfl rfl z_su rfl q_load z_fp z_ss ?_; refine s_pure (callOf_eq rfl rfl rfl (mlk_tmp z_lk mlk_nil)) (hck) rfl rfl z_ip z_fp ?_; refine s_o [(9, _)] rfl rfl rfl z_su rfl q_full z_fp z_ss ?_; exact wpS_nil ⟨rfl, rfl⟩)) z_su ?_; clear z_ex)
    ((repeat refine WpM.seq ?_); refine WpM.condF (by (simp (maxSteps := 2000000) (disch := omega) [go_sem, -List.map_map])) ?_)
    refine WpM.skip ?_
    ((repeat refine WpM.seq ?_); have z_ex := True.intro; refine WpM.regPE [] [(1, _), (2, _), (5, _)] (by (refine s_o [] rfl rfl rfl z_su rfl q_move z_fp z_ss ?_; exact wpS_nil ⟨rfl, rfl⟩)) z_su ?_; clear z_ex)
    refine Upd.wp (Upd.ghost 5 1 (.inl (by (simp (maxSteps := 2000000) (disch := omega) [go_sem, -List.map_map]))) (Upd.done ?_))
    refine WpM.less (le_cut (n0 := n0) (n' := n0 + 6) (l' := [(n0, some (histBox h)), (n0 + 5, some (.row 1 []))]) hH (by (simp (maxSteps := 2000000) (disch := omega) [go_sem, -List.map_map])) (by (simp (maxSteps := 2000000) (disch := omega) [go_sem, -List.map_map])) (by (simp (maxSteps := 2000000) (disch := omega) [go_sem, -List.map_map, histBox, strs]))) (frLe_frOf (l := [(1, .d (.int .i64 key)), (2, .ptr n0 0), (5, .ms (n0 + 5) 1 0 0)]) (by (simp (maxSteps := 2000000) (disch := omega) [go_sem, -List.map_map]))) ?_
    ((repeat refine WpM.seq ?_); have z_ex := (And.intro @histBox.eq_1 True.intro); refine WpM.regPE [] [(1, _), (5, _), (12, _), (13, _), (14, _)] (by (refine s_o [(2, _)] rfl rfl rfl z_su rfl q_fieldAddr z_fp z_ss ?_; refine s_o [(11, _)] rfl rfl rfl z_su rfl q_load z_fp z_ss ?_; refine s_o [(12, _)] rfl rfl rfl z_su rfl q_full z_fp z_ss ?_; refine s_o [] rfl rfl rfl z_su rfl q_move z_fp z_ss ?_; exact wpS_nil ⟨rfl, rfl⟩)) z_su ?_; clear z_ex)
    ((repeat refine WpM.seq ?_); refine WpM.block ?_)
    refine WpM.loop (fun (i : Nat) fr S => i ≤ h.txns.length ∧ ∃ nx nr ys, n0 ≤ nr ∧ nr < nx ∧ ys = intV (writersL h key i) ∧ fr = frOf [(1, .d (.int .i64 key)), (5, .ms nr 1 0 ys.length), (12, .d (.sl (h.txns.map encTxn))), (13, .d (.int .i64 h.txns.length)), (14, .d (.int .i64 i))] ∧ S = ⟨nx, [(nr, some (.row 1 ys))], H⟩) (fun i => h.txns.length - i) 0 (le_cut (n0 := n0) (n' := n0 + 12) (l' := [(n0 + 5, some (.row 1 []))]) hH (by (simp (maxSteps := 2000000) (disch := omega) [go_sem, -List.map_map])) (by (simp (maxSteps := 2000000) (disch := omega) [go_sem, -List.map_map])) (by (simp (maxSteps := 2000000) (disch := omega) [go_sem, -List.map_map]))) (Sub.le z_su) ⟨by omega, n0 + 12, n0 + 5, [], by omega, by omega, rfl, rfl, rfl⟩ ?_
    rintro i fr S' ⟨hi, nx, nr, ys, hnr, hnx, hys, rfl, rfl⟩
    have hyl : ys.length ≤ i := by have := writersL_len h key i; rw [hys, intV, List.length_map]; exact this
    ((repeat refine WpM.seq ?_); have z_ex := True.intro; refine WpM.regPE [] [(1, _), (5, _), (12, _), (13, _), (14, _), (15, _)] (by (refine s_o [(13, _), (14, _)] rfl rfl rfl z_su rfl q_full z_fp z_ss ?_; exact wpS_nil ⟨rfl, rfl⟩)) z_su ?_; clear z_ex)
    by_cases hit : i < h.txns.length
    · ((repeat refine WpM.seq ?_); refine WpM.condT (by (simp (maxSteps := 2000000) (disch := omega) [go_sem, -List.map_map, hit])) ?_)
      refine WpM.skip ?_
      ((repeat refine WpM.seq ?_); refine WpM.block ?_)
      obtain ⟨t, ht⟩ : ∃ t, t = h.txns[i] := ⟨_, rfl⟩
      have hget : (h.txns.map encTxn)[i]? = some (encTxn t) := by simp [hit, ht]
      have hwr := wrote58 t (hb.txns t (ht ▸ List.getElem_mem _)) key
      obtain ⟨wl, hwl⟩ : ∃ wl, wl = wroteL t.ops key := ⟨_, rfl⟩
      have hwb : writesB h key i = (decide (t.status ≠ 2) && decide (0 < wl.length)) := by rw [writesB, List.getElem?_eq_getElem hit, ← ht, hwl]
      rw [← hwl] at hwr
      have hstep := writersL_step h key i
      have no : writesB h key i = false → ys = intV (writersL h key (i + 1)) := fun hp => by rw [hstep, hp, hys]; simp [intV]
      ((repeat refine WpM.seq ?_); have z_ex := (And.intro @hget (And.intro @encTxn.eq_1 True.intro)); refine WpM.regPE [] [(1, _), (5, _), (6, _), (7, _), (12, _), (13, _), (14, _)] (by (refine s_o [(14, _)] rfl rfl rfl z_su rfl q_move z_fp z_ss ?_; refine s_o [(12, _), (14, _)] rfl rfl rfl z_su rfl q_full z_fp z_ss ?_; refine s_o [(17, _)] rfl rfl rfl z_su rfl q_load z_fp z_ss ?_; refine s_o [] rfl rfl rfl z_su rfl q_alloc z_fp z_ss ?_; refine s_o [(16, _)] rfl rfl rfl z_su rfl q_move z_fp z_ss ?_; refine s_o [(7, _), (18, _)] rfl rfl rfl z_su rfl q_store z_fp z_ss ?_; exact wpS_nil ⟨rfl, rfl⟩)) z_su ?_; clear z_ex)
      by_cases h2 : t.status = 2
      · have hp : writesB h key i = false := by rw [hwb]; simp [h2]
        ((repeat refine WpM.seq ?_); have z_ex := (And.intro @h2 True.intro); refine WpM.regPE [] [(1, _), (5, _), (6, _), (12, _), (13, _), (14, _), (28, _)] (by (refine s_o [(7, _)] rfl rfl rfl z_su rfl q_fieldAddr z_fp z_ss ?_; refine s_o [(19, _)] rfl rfl rfl z_su rfl q_load z_fp z_ss ?_; refine s_o [(20, _)] rfl rfl rfl z_su rfl q_full z_fp z_ss ?_; refine s_o [(21, _)] rfl rfl rfl z_su rfl q_move z_fp z_ss ?_; refine s_wit ?_; intro z_g; (first | refine s_skip rfl z_g z_fp ?_ | (refine s_o [(7, _)] rfl z_g rfl z_su rfl q_load z_fp z_ss ?_)); clear z_g; refine s_wit ?_; intro z_g; (first | refine s_skip rfl z_g z_fp ?_ | (refine s_o [(1, _)] rfl z_g rfl z_su rfl q_move z_fp z_ss ?_)); clear z_g; refine s_wit ?_; intro z_g; (first | refine s_skip rfl z_g z_fp ?_ | (refine s_pure (callOf_eq rfl rfl rfl (mlk_tmp z_lk (mlk_tmp z_lk mlk_nil))) (?missing) rfl z_g z_ip z_fp ?_)); clear z_g; refine s_wit ?_; intro z_g; (first | refine s_skip rfl z_g z_fp ?_ | (refine s_o [(25, _)] rfl z_g rfl z_su rfl q_full z_fp z_ss ?_)); clear z_g; refine s_wit ?_; intro z_g; (first | refine s_skip rfl z_g z_fp ?_ | (refine s_o [(26, _)] rfl z_g rfl z_su rfl q_full z_fp z_ss ?_)); clear z_g; refine s_o [(22, _), (27, _)] rfl rfl rfl z_su rfl q_move z_fp z_ss ?_; exact wpS_nil ⟨rfl, rfl⟩)) z_su ?_; clear z_ex)
        ((repeat refine WpM.seq ?_); refine WpM.condF (by (simp (maxSteps := 2000000) (disch := omega) [go_sem, -List.map_map, h2])) ?_)
        refine WpM.skip ?_
        ((repeat refine WpM.seq ?_); have z_ex := (And.intro @wrap_id True.intro); refine WpM.regPE [] [(1, _), (5, _), (12, _), (13, _), (14, _)] (by (refine s_o [(14, _)] rfl rfl rfl z_su rfl q_full z_fp z_ss ?_; refine s_o [(33, _)] rfl rfl rfl z_su rfl q_move z_fp z_ss ?_; exact wpS_nil ⟨rfl, rfl⟩)) z_su ?_; clear z_ex)
        exact round_end (x' := i + 1) (le_cut (n0 := n0) (l' := [(nr, some (.row 1 ys))]) hH (by (simp (maxSteps := 2000000) (disch := omega) [go_sem, -List.map_map]); omega) (Nat.le_refl _) (by (simp (maxSteps := 2000000) (disch := omega) [go_sem, -List.map_map]))) (Sub.le z_su) ⟨by omega, _, nr, ys, hnr, by show nr < nx + _; omega, no hp, rfl, rfl⟩ (by omega)
      · by_cases h3 : 0 < wl.length
        · have hp : writesB h key i = true := by rw [hwb]; simp [h2]; omega
          have hys' : ys ++ [V.d (.int .i64 i)] = intV (writersL h key (i + 1)) := by rw [hstep, hp, hys]; simp [intV]
          have h3' : (0 : Int) < wl.length := by omega
          have h3'' : ¬ wl = [] := by rintro rfl; simp at h3
          ((repeat refine WpM.seq ?_); have z_ex := (And.intro @h2 (And.intro @ints.eq_1 (And.intro @h3' (And.intro @h3'' True.intro)))); refine WpM.regPE [] [(1, _), (5, _), (6, _), (12, _), (13, _), (14, _), (28, _)] (by (refine s_o [(7, _)] rfl rfl rfl z_su rfl q_fieldAddr z_fp z_ss ?_; refine s_o [(19, _)] rfl rfl rfl z_su rfl q_load z_fp z_ss ?_; refine s_o [(20, _)] rfl rfl rfl z_su rfl q_full z_fp z_ss ?_; refine s_o [(21, _)] rfl rfl rfl z_su rfl q_move z_fp z_ss ?_; refine s_wit ?_; intro z_g; (first | refine s_skip rfl z_g z_fp ?_ | (refine s_o [(7, _)] rfl z_g rfl z_su rfl q_load z_fp z_ss ?_)); clear z_g; refine s_wit ?_; intro z_g; (first | refine s_skip rfl z_g z_fp ?_ | (refine s_o [(1, _)] rfl z_g rfl z_su rfl q_move z_fp z_ss ?_)); clear z_g; refine s_wit ?_; intro z_g; (first | refine s_skip rfl z_g z_fp ?_ | (refine s_pure (callOf_eq rfl rfl rfl (mlk_tmp z_lk (mlk_tmp z_lk mlk_nil))) (hwr) rfl z_g z_ip z_fp ?_)); clear z_g; refine s_wit ?_; intro z_g; (first | refine s_skip rfl z_g z_fp ?_ | (refine s_o [(25, _)] rfl z_g rfl z_su rfl q_full z_fp z_ss ?_)); clear z_g; refine s_wit ?_; intro z_g; (first | refine s_skip rfl z_g z_fp ?_ | (refine s_o [(26, _)] rfl z_g rfl z_su rfl q_full z_fp z_ss ?_)); clear z_g; refine s_o [(22, _), (27, _)] rfl rfl rfl z_su rfl q_move z_fp z_ss ?_; exact wpS_nil ⟨rfl, rfl⟩)) z_su ?_; clear z_ex)
          ((repeat refine WpM.seq ?_); refine WpM.condT (by (simp (maxSteps := 2000000) (disch := omega) [go_sem, -List.map_map, h2, h3, h3', h3''])) ?_)
          ((repeat refine WpM.seq ?_); have z_ex := True.intro; refine WpM.regPE [] [(1, _), (5, _), (12, _), (13, _), (14, _)] (by (refine s_o [(5, _)] rfl rfl rfl z_su rfl q_move z_fp z_ss ?_; refine s_o [(6, _)] rfl rfl rfl z_su rfl q_move z_fp z_ss ?_; refine s_o [(30, _)] rfl rfl rfl z_su rfl q_full z_fp z_ss ?_; refine s_o [(29, _), (31, _)] rfl rfl rfl z_su rfl q_full z_fp z_ss ?_; refine s_o [(32, _)] rfl rfl rfl z_su rfl q_move z_fp z_ss ?_; exact wpS_nil ⟨rfl, rfl⟩)) z_su ?_; clear z_ex)
          ((repeat refine WpM.seq ?_); have z_ex := (And.intro @wrap_id True.intro); refine WpM.regPE [] [(1, _), (5, _), (12, _), (13, _), (14, _)] (by (refine s_o [(14, _)] rfl rfl rfl z_su rfl q_full z_fp z_ss ?_; refine s_o [(33, _)] rfl rfl rfl z_su rfl q_move z_fp z_ss ?_; exact wpS_nil ⟨rfl, rfl⟩)) z_su ?_; clear z_ex)
          exact round_end (x' := i + 1) (le_cut (n0 := n0) (l' := [(nx + 19, some (.row 1 (ys ++ [V.d (.int .i64 i)])))]) hH (by (simp (maxSteps := 2000000) (disch := omega) [go_sem, -List.map_map]); omega) (Nat.le_refl _) (by (simp (maxSteps := 2000000) (disch := omega) [go_sem, -List.map_map]))) (frLe_frOf (by (simp (maxSteps := 2000000) (disch := omega) [go_sem, -List.map_map, wrap_id]))) ⟨by omega, nx + 23, nx + 19, _, by omega, by omega, hys', rfl, by (simp (maxSteps := 2000000) (disch := omega) [go_sem, -List.map_map])⟩ (by omega)
        · have h3' : wl.length = 0 := by omega
          have h3'' : wl = [] := List.eq_nil_of_length_eq_zero h3'
          have hp : writesB h key i = false := by rw [hwb, h3'']; simp
          ((repeat refine WpM.seq ?_); have z_ex := (And.intro @h2 (And.intro @ints.eq_1 (And.intro @h3' (And.intro @h3'' True.intro)))); refine WpM.regPE [] [(1, _), (5, _), (6, _), (12, _), (13, _), (14, _), (28, _)] (by (refine s_o [(7, _)] rfl rfl rfl z_su rfl q_fieldAddr z_fp z_ss ?_; refine s_o [(19, _)] rfl rfl rfl z_su rfl q_load z_fp z_ss ?_; refine s_o [(20, _)] rfl rfl rfl z_su rfl q_full z_fp z_ss ?_; refine s_o [(21, _)] rfl rfl rfl z_su rfl q_move z_fp z_ss ?_; refine s_wit ?_; intro z_g; (first | refine s_skip rfl z_g z_fp ?_ | (refine s_o [(7, _)] rfl z_g rfl z_su rfl q_load z_fp z_ss ?_)); clear z_g; refine s_wit ?_; intro z_g; (first | refine s_skip rfl z_g z_fp ?_ | (refine s_o [(1, _)] rfl z_g rfl z_su rfl q_move z_fp z_ss ?_)); clear z_g; refine s_wit ?_; intro z_g; (first | refine s_skip rfl z_g z_fp ?_ | (refine s_pure (callOf_eq rfl rfl rfl (mlk_tmp z_lk (mlk_tmp z_lk mlk_nil))) (hwr) rfl z_g z_ip z_fp ?_)); clear z_g; refine s_wit ?_; intro z_g; (first | refine s_skip rfl z_g z_fp ?_ | (refine s_o [(25, _)] rfl z_g rfl z_su rfl q_full z_fp z_ss ?_)); clear z_g; refine s_wit ?_; intro z_g; (first | refine s_skip rfl z_g z_fp ?_ | (refine s_o [(26, _)] rfl z_g rfl z_su rfl q_full z_fp z_ss ?_)); clear z_g; refine s_o [(22, _), (27, _)] rfl rfl rfl z_su rfl q_move z_fp z_ss ?_; exact wpS_nil ⟨rfl, rfl⟩)) z_su ?_; clear z_ex)
          ((repeat refine WpM.seq ?_); refine WpM.condF (by (simp (maxSteps := 2000000) (disch := omega) [go_sem, -List.map_map, h2, h3', h3''])) ?_)
          refine WpM.skip ?_
          ((repeat refine WpM.seq ?_); have z_ex := (And.intro @wrap_id True.intro); refine WpM.regPE [] [(1, _), (5, _), (12, _), (13, _), (14, _)] (by (refine s_o [(14, _)] rfl rfl rfl z_su rfl q_full z_fp z_ss ?_; refine s_o [(33, _)] rfl rfl rfl z_su rfl q_move z_fp z_ss ?_; exact wpS_nil ⟨rfl, rfl⟩)) z_su ?_; clear z_ex)
          exact round_end (x' := i + 1) (le_cut (n0 := n0) (l' := [(nr, some (.row 1 ys))]) hH (by (simp (maxSteps := 2000000) (disch := omega) [go_sem, -List.map_map]); omega) (Nat.le_refl _) (by (simp (maxSteps := 2000000) (disch := omega) [go_sem, -List.map_map]))) (Sub.le z_su) ⟨by omega, _, nr, ys, hnr, by show nr < nx + _; omega, no hp, rfl, rfl⟩ (by omega)
    · ((repeat refine WpM.seq ?_); refine WpM.condF (by (simp (maxSteps := 2000000) (disch := omega) [go_sem, -List.map_map, hit])) ?_)
      (refine WpM.exit ?_; (repeat (with_reducible (first | refine thenM_exit ?_ | refine blockM_eq ?_ | refine blockM_ne (by decide) ?_))))
      obtain rfl : i = h.txns.length := by omega
      ((repeat refine WpM.seq ?_); have z_ex := True.intro; refine WpM.regPE [] [(4, _)] (by (refine s_o [(5, _)] rfl rfl rfl z_su rfl q_move z_fp z_ss ?_; refine s_o [(34, _)] rfl rfl rfl z_su rfl q_move z_fp z_ss ?_; exact wpS_nil ⟨rfl, rfl⟩)) z_su ?_; clear z_ex)
      refine WpM.ret ?_
      refine ⟨.inr rfl, Upd.freeze 4 (nm := nr) (sz := 1) (o := 0) (m := ys.length) (xs := ys) ((writersL h key h.txns.length).map (D.int .i64)) (by (simp (maxSteps := 2000000) (disch := omega) [go_sem, -List.map_map])) (by (simp (maxSteps := 2000000) (disch := omega) [go_sem, -List.map_map])) (by rw [List.drop_zero, List.take_length, hys, intV, List.map_map]; rfl) (by rw [hys, intV]; simp) (Upd.done ⟨_, (by (simp (maxSteps := 2000000) (disch := omega) [go_sem, -List.map_map, resV, resVs, resV1, fset, ints])), rfl, fun m k _ hk => ?_⟩)⟩
      have := hH _ _ hk
      (simp (maxSteps := 2000000) (disch := omega) [go_sem, -List.map_map, hk])
end Go.Proofs.Ytjjmedgibcffhaa
/- assizelaw05.alive. -/
namespace Go.Proofs.Ytjjmedgibcffhaa
open Go.RowKit M
set_option linter.unusedSimpArgs false
set_option linter.unusedVariables false
def yB : ByteArray := ⟨#[121]⟩
def aCall : CallD := ⟨2, yB, 5, false, []⟩
def aEvs : List EventD := [⟨0, 0, [aCall]⟩, ⟨0, 1, [aCall]⟩]
def aHist : HistD := ⟨[yB], [⟨0, 1, 0, 1, [⟨2, 0, 5, false, []⟩]⟩]⟩
theorem aCall_ok (e : Int) : callOk aCall e = true := by simp [callOk, aCall, yB, ByteArray.toList_eq, ByteArray.size]
theorem aEv_ok (p k : Int) (h0 : 0 ≤ k) (h3 : k ≤ 3) : eventOk ⟨p, k, [aCall]⟩ = true := by simp [eventOk, aCall_ok, h0, h3]
theorem aEvs_listOk : listOk aEvs = true := by simp [listOk, aEvs, aEv_ok]
theorem aEvs_pairs : pairsF aEvs = .ok [⟨0, 1, 1⟩] := by
  have h1 : pairsSt aEvs 1 = .ok ([⟨0, -1, 3⟩], upd (fun _ => none) 0 (some 0)) := by
    rw [pairsSt_succ (ps := []) (op := fun _ => none) rfl (by decide)]
    simp [pairStep, aEvs]
  have h2 : pairsSt aEvs 2 = .ok ([⟨0, 1, 1⟩], upd (upd (fun _ => none) 0 (some 0)) 0 none) := by
    rw [pairsSt_succ h1 (by decide)]
    simp [pairStep, aEvs, upd_same, matchB, callsEq, callEq]
  rw [pairsF, if_pos aEvs_listOk]
  show (match pairsSt aEvs 2 with | .error j => _ | .ok s => _) = _
  rw [h2]
theorem aEvs_build : buildF aEvs = (aHist, 0, 0) := by
  rw [buildF, aEvs_pairs]
  simp [buildSt, buildStep, ev, aEvs, entersE, enterB, addB, putB, findN, Bk.push, Bk.empty, tyOf, aCall, txnOf, callsFor, opOf, aHist]
theorem aHist_check : checkB aHist = true := by
  have e1 : evOf aHist.keys ⟨0, 1, 0, 1, [⟨2, 0, 5, false, []⟩]⟩ = ⟨0, 1, [aCall]⟩ := by simp [evOf, aHist, okKey, callOf', aCall]
  have e2 : eventOk ⟨0, 1, [aCall]⟩ = true := aEv_ok _ _ (by decide) (by decide)
  have e3 : evOkB aHist.keys ⟨0, 1, 0, 1, [⟨2, 0, 5, false, []⟩]⟩ = true := by rw [evOkB, e1, e2]; simp [aHist, okKey]
  have e4 : placedB ([] : List TxnD) ⟨0, 1, 0, 1, [⟨2, 0, 5, false, []⟩]⟩ = true := by simp [placedB]
  have e5 : stepT aHist 0 Bk.empty = enters Bk.empty [aCall] 0 := by
    unfold stepT
    simp only [show aHist.txns[0]? = some ⟨0, 1, 0, 1, [⟨2, 0, 5, false, []⟩]⟩ from rfl, List.take_zero, e3, e4, e1, Bool.and_self, if_true]
    rfl
  have e6 : (enters Bk.empty [aCall] 0).isSome = true := by simp [enters, enterB, addB, putB, findN, Bk.push, Bk.empty, tyOf, aCall]
  have e7 : namesB aHist.keys = true := by simp [namesB, nameB, aHist, findN, yB, ByteArray.size]
  rw [checkB, e7]
  have : checkSt aHist aHist.txns.length = stepT aHist 0 Bk.empty := rfl
  rw [this, e5, e6]
  simp [aHist]
theorem aHist_type : typeF aHist 0 = 2 := by
  rw [typeF, if_pos aHist_check]
  simp [allOps, aHist, tyOf]
theorem aHist_final : finalV aHist 0 0 = .tup [.d (.sl [.int .i64 5]), .d (.bool true)] := by
  have := finalV_good (h := aHist) (t := 0) (key := 0) (by decide) aHist_check
  have e : finalV aHist 0 0 = finalV aHist ((0 : Nat) : Int) 0 := rfl
  rw [e, this]
  simp [aHist, wroteL, wrP]
theorem aEmpty_check : checkB ⟨[⟨#[]⟩], []⟩ = false := by
  have : namesB [⟨#[]⟩] = false := by simp [namesB, nameB, ByteArray.size]
  rw [checkB, this]
  rfl
theorem aEvs_ok : SlOk EventOk 40 aEvs := by
  have hc : CallOk aCall := ⟨(by decide : (Lit.int .i64 2).wf = true), by decide, (by decide : (Lit.int .i64 5).wf = true), by decide, by simp [aCall]⟩
  refine ⟨by decide, fun e he => ?_⟩
  simp only [aEvs, List.mem_cons, List.not_mem_nil, or_false] at he
  rcases he with rfl | rfl
  · exact ⟨(by decide : (Lit.int .i64 0).wf = true), (by decide : (Lit.int .i64 0).wf = true), by decide, fun c hc' => by simp at hc'; rw [hc']; exact hc⟩
  · exact ⟨(by decide : (Lit.int .i64 0).wf = true), (by decide : (Lit.int .i64 1).wf = true), by decide, fun c hc' => by simp at hc'; rw [hc']; exact hc⟩
theorem aHist_ok : HistOk aHist := by
  refine ⟨⟨by decide, fun s hs => ?_⟩, by decide, fun t ht => ?_⟩
  · simp [aHist] at hs; subst hs; decide
  · simp [aHist] at ht
    subst ht
    refine ⟨(by decide : (Lit.int .i64 0).wf = true), (by decide : (Lit.int .i64 1).wf = true), (by decide : (Lit.int .i64 0).wf = true), (by decide : (Lit.int .i64 1).wf = true), by simp, fun o ho => ?_⟩
    simp at ho
    subst ho
    exact ⟨(by decide : (Lit.int .i64 2).wf = true), (by decide : (Lit.int .i64 0).wf = true), (by decide : (Lit.int .i64 5).wf = true), by simp, by simp⟩
theorem aEmpty_ok : HistOk ⟨[⟨#[]⟩], []⟩ := ⟨⟨by simp, fun s hs => by simp at hs; subst hs; decide⟩, by simp, by simp⟩
theorem PureC.arg1 {P : Program} {f : FuncId} {x x' r : V} (h : PureC P f [x'] r) (hx : ∀ {g : Gh} {w : World} {v : Value}, RV g w x v → RV g w x' v) : PureC P f [x] r := by
  intro S g w vals h1 h2 h3 h4
  refine h S g w vals h1 h2 h3 fun j y hy => ?_
  match j, hy with
  | 0, hy => simp at hy; subst hy; exact hx (h4 0 x rfl)
  | j + 1, hy => simp at hy
set_option maxHeartbeats 8000000 in
theorem alive27 : PureC Try.prog 27 [] (.d (.bool true)) := by
  refine PureC.of (n := 70) Try.func27 rfl rfl (by simp) rfl rfl ?_
  intro n0 H hH
  have hbuild := build28 aEvs aEvs_ok
  rw [buildV, aEvs_build] at hbuild
  rw [show (V.tup [.d (encHist aHist), fltV (0, 0)]) = .tup [.d (.agg [.sl [.str ⟨#[121]⟩], .sl [.agg [.int .i64 0, .int .i64 1, .int .i64 0, .int .i64 1, .sl [.agg [.int .i64 2, .int .i64 0, .int .i64 5, .bool false, .sl []]]]]]), .d (.agg [.int .i64 0, .int .i64 0])] from rfl] at hbuild
  have hfin := final36 aHist aHist_ok 0 0
  rw [aHist_final] at hfin
  have hty := type34 aHist aHist_ok 0
  rw [aHist_type] at hty
  have hck := check32 ⟨[⟨#[]⟩], []⟩ aEmpty_ok
  rw [aEmpty_check, errno_f] at hck
  have hck2 : PureC Try.prog 32 [.agg [.d (.sl [.str ⟨#[]⟩]), .nil]] (.d (.int .i64 1)) := PureC.arg1 hck fun {g w v} h => by
    cases h with
    | agg xs vs hl hr =>
      refine .d (.agg _ vs (by simpa using hl) fun j y hy => ?_)
      match j, hy with
      | 0, hy =>
        simp at hy
        subst hy
        have := hr 0 _ rfl
        cases this with | d this => exact this
      | 1, hy =>
        simp at hy
        subst hy
        have := hr 1 _ rfl
        generalize vs.getD 1 undef = q at this
        cases this
        exact .slNil _ _
      | j + 2, hy => simp at hy
  ((repeat refine WpM.seq ?_); have z_ex := True.intro; refine WpM.regPE [] [] (by (refine s_o [] rfl rfl rfl z_su rfl q_move z_fp z_ss ?_; exact wpS_nil ⟨rfl, rfl⟩)) z_su ?_; clear z_ex)
  ((repeat refine WpM.seq ?_); have z_ex := True.intro; refine WpM.regPE [] [(1, _)] (by (refine s_o [] rfl rfl rfl z_su rfl q_build z_fp z_ss ?_; refine s_o [(6, _)] rfl rfl rfl z_su rfl q_full z_fp z_ss ?_; refine s_o [(7, _)] rfl rfl rfl z_su rfl q_move z_fp z_ss ?_; exact wpS_nil ⟨rfl, rfl⟩)) z_su ?_; clear z_ex)
  refine Upd.wp (Upd.rowNil (n0 + 2) (sz := 5) (ys := [.d (.int .i64 2), .d (.str ⟨#[121]⟩), .d (.int .i64 5), .d (.bool false), .nil]) (by (simp (maxSteps := 2000000) (disch := omega) [go_sem, -List.map_map])) (Upd.freeze 1 (nm := n0 + 2) (sz := 5) (o := 0) (m := 1) (xs := [.d (.agg [.int .i64 2, .str ⟨#[121]⟩, .int .i64 5, .bool false, .sl []])]) [.agg [.int .i64 2, .str ⟨#[121]⟩, .int .i64 5, .bool false, .sl []]] (by (simp (maxSteps := 2000000) (disch := omega) [go_sem, -List.map_map])) (by (simp (maxSteps := 2000000) (disch := omega) [go_sem, -List.map_map, nilC])) rfl rfl (Upd.done ?_)))
  refine WpM.less (le_cut (n0 := n0) (n' := n0 + 4) (l' := []) hH (by (simp (maxSteps := 2000000) (disch := omega) [go_sem, -List.map_map])) (by (simp (maxSteps := 2000000) (disch := omega) [go_sem, -List.map_map])) (by (simp (maxSteps := 2000000) (disch := omega) [go_sem, -List.map_map]))) (frLe_frOf (l := [(1, .d (.sl [.agg [.int .i64 2, .str ⟨#[121]⟩, .int .i64 5, .bool false, .sl []]]))]) (by (simp (maxSteps := 2000000) (disch := omega) [go_sem, -List.map_map, fset]))) ?_
  ((repeat refine WpM.seq ?_); have z_ex := True.intro; refine WpM.regPE [] [(2, _), (3, _)] (by (refine s_o [(1, _)] rfl rfl rfl z_su rfl q_move z_fp z_ss ?_; refine s_o [(9, _)] rfl rfl rfl z_su rfl q_build z_fp z_ss ?_; refine s_o [(1, _)] rfl rfl rfl z_su rfl q_move z_fp z_ss ?_; refine s_o [(11, _)] rfl rfl rfl z_su rfl q_build z_fp z_ss ?_; refine s_o [(10, _), (12, _)] rfl rfl rfl z_su rfl q_full z_fp z_ss ?_; refine s_pure (callOf_eq rfl rfl rfl (mlk_tmp z_lk mlk_nil)) (hbuild) rfl rfl z_ip z_fp ?_; refine s_o [(14, _)] rfl rfl rfl z_su rfl q_move z_fp z_ss ?_; refine s_o [(8, _)] rfl rfl rfl z_su rfl q_extract z_fp z_ss ?_; refine s_o [(8, _)] rfl rfl rfl z_su rfl q_extract z_fp z_ss ?_; refine s_o [] rfl rfl rfl z_su rfl q_alloc z_fp z_ss ?_; refine s_o [] rfl rfl rfl z_su rfl q_alloc z_fp z_ss ?_; refine s_o [(2, _), (15, _)] rfl rfl rfl z_su rfl q_store z_fp z_ss ?_; refine s_o [(3, _), (16, _)] rfl rfl rfl z_su rfl q_store z_fp z_ss ?_; exact wpS_nil ⟨rfl, rfl⟩)) z_su ?_; clear z_ex)
  ((repeat refine WpM.seq ?_); have z_ex := True.intro; refine WpM.regPE [] [(2, _), (3, _), (4, _), (5, _)] (by (refine s_o [(2, _)] rfl rfl rfl z_su rfl q_load z_fp z_ss ?_; refine s_pure (callOf_eq rfl rfl rfl (mlk_tmp z_lk (mlk_const rfl (mlk_const rfl mlk_nil)))) (hfin) rfl rfl z_ip z_fp ?_; refine s_o [(19, _)] rfl rfl rfl z_su rfl q_move z_fp z_ss ?_; refine s_o [(17, _)] rfl rfl rfl z_su rfl q_extract z_fp z_ss ?_; refine s_o [(17, _)] rfl rfl rfl z_su rfl q_extract z_fp z_ss ?_; refine s_o [(20, _)] rfl rfl rfl z_su rfl q_move z_fp z_ss ?_; refine s_o [(21, _)] rfl rfl rfl z_su rfl q_move z_fp z_ss ?_; exact wpS_nil ⟨rfl, rfl⟩)) z_su ?_; clear z_ex)
  ((repeat refine WpM.seq ?_); have z_ex := True.intro; refine WpM.regPE [] [(0, _)] (by (refine s_o [(3, _)] rfl rfl rfl z_su rfl q_fieldAddr z_fp z_ss ?_; refine s_o [(22, _)] rfl rfl rfl z_su rfl q_load z_fp z_ss ?_; refine s_o [(23, _)] rfl rfl rfl z_su rfl q_full z_fp z_ss ?_; refine s_o [(24, _)] rfl rfl rfl z_su rfl q_move z_fp z_ss ?_; refine s_wit ?_; intro z_g; (first | refine s_skip rfl z_g z_fp ?_ | (refine s_o [(2, _)] rfl z_g rfl z_su rfl q_fieldAddr z_fp z_ss ?_)); clear z_g; refine s_wit ?_; intro z_g; (first | refine s_skip rfl z_g z_fp ?_ | (refine s_o [(26, _)] rfl z_g rfl z_su rfl q_load z_fp z_ss ?_)); clear z_g; refine s_wit ?_; intro z_g; (first | refine s_skip rfl z_g z_fp ?_ | (refine s_o [(27, _)] rfl z_g rfl z_su rfl q_full z_fp z_ss ?_)); clear z_g; refine s_wit ?_; intro z_g; (first | refine s_skip rfl z_g z_fp ?_ | (refine s_o [(28, _)] rfl z_g rfl z_su rfl q_full z_fp z_ss ?_)); clear z_g; refine s_o [(25, _), (29, _)] rfl rfl rfl z_su rfl q_move z_fp z_ss ?_; refine s_o [(30, _)] rfl rfl rfl z_su rfl q_move z_fp z_ss ?_; refine s_wit ?_; intro z_g; (first | refine s_skip rfl z_g z_fp ?_ | (refine s_o [(2, _)] rfl z_g rfl z_su rfl q_fieldAddr z_fp z_ss ?_)); clear z_g; refine s_wit ?_; intro z_g; (first | refine s_skip rfl z_g z_fp ?_ | (refine s_o [(32, _)] rfl z_g rfl z_su rfl q_load z_fp z_ss ?_)); clear z_g; refine s_wit ?_; intro z_g; (first | refine s_skip rfl z_g z_fp ?_ | (refine s_o [(33, _)] rfl z_g rfl z_su rfl q_full z_fp z_ss ?_)); clear z_g; refine s_wit ?_; intro z_g; (first | refine s_skip rfl z_g z_fp ?_ | (refine s_o [(34, _)] rfl z_g rfl z_su rfl q_full z_fp z_ss ?_)); clear z_g; refine s_o [(31, _), (35, _)] rfl rfl rfl z_su rfl q_move z_fp z_ss ?_; refine s_o [(36, _)] rfl rfl rfl z_su rfl q_move z_fp z_ss ?_; refine s_wit ?_; intro z_g; (first | refine s_skip rfl z_g z_fp ?_ | (refine s_o [(2, _)] rfl z_g rfl z_su rfl q_fieldAddr z_fp z_ss ?_)); clear z_g; refine s_wit ?_; intro z_g; (first | refine s_skip rfl z_g z_fp ?_ | (refine s_o [(38, _)] rfl z_g rfl z_su rfl q_load z_fp z_ss ?_)); clear z_g; refine s_wit ?_; intro z_g; (first | refine s_skip rfl z_g z_fp ?_ | (refine s_o [(39, _)] rfl z_g rfl z_su rfl q_full z_fp z_ss ?_)); clear z_g; refine s_wit ?_; intro z_g; (first | refine s_skip rfl z_g z_fp ?_ | (refine s_o [(40, _)] rfl z_g rfl z_su rfl q_fieldAddr z_fp z_ss ?_)); clear z_g; refine s_wit ?_; intro z_g; (first | refine s_skip rfl z_g z_fp ?_ | (refine s_o [(41, _)] rfl z_g rfl z_su rfl q_load z_fp z_ss ?_)); clear z_g; refine s_wit ?_; intro z_g; (first | refine s_skip rfl z_g z_fp ?_ | (refine s_o [(42, _)] rfl z_g rfl z_su rfl q_full z_fp z_ss ?_)); clear z_g; refine s_o [(37, _), (43, _)] rfl rfl rfl z_su rfl q_move z_fp z_ss ?_; refine s_o [(44, _)] rfl rfl rfl z_su rfl q_move z_fp z_ss ?_; refine s_wit ?_; intro z_g; (first | refine s_skip rfl z_g z_fp ?_ | (refine s_o [(2, _)] rfl z_g rfl z_su rfl q_load z_fp z_ss ?_)); clear z_g; refine s_wit ?_; intro z_g; (first | refine s_skip rfl z_g z_fp ?_ | (refine s_pure (callOf_eq rfl rfl rfl (mlk_tmp z_lk (mlk_const rfl mlk_nil))) (hty) rfl z_g z_ip z_fp ?_)); clear z_g; refine s_wit ?_; intro z_g; (first | refine s_skip rfl z_g z_fp ?_ | (refine s_o [(47, _)] rfl z_g rfl z_su rfl q_full z_fp z_ss ?_)); clear z_g; refine s_o [(45, _), (48, _)] rfl rfl rfl z_su rfl q_move z_fp z_ss ?_; refine s_o [(49, _)] rfl rfl rfl z_su rfl q_move z_fp z_ss ?_; refine s_wit ?_; intro z_g; (first | refine s_skip rfl z_g z_fp ?_ | (refine s_o [(5, _)] rfl z_g rfl z_su rfl q_move z_fp z_ss ?_)); clear z_g; refine s_o [(50, _), (51, _)] rfl rfl rfl z_su rfl q_move z_fp z_ss ?_; refine s_o [(52, _)] rfl rfl rfl z_su rfl q_move z_fp z_ss ?_; refine s_wit ?_; intro z_g; (first | refine s_skip rfl z_g z_fp ?_ | (refine s_o [(4, _)] rfl z_g rfl z_su rfl q_move z_fp z_ss ?_)); clear z_g; refine s_wit ?_; intro z_g; (first | refine s_skip rfl z_g z_fp ?_ | (refine s_o [(54, _)] rfl z_g rfl z_su rfl q_full z_fp z_ss ?_)); clear z_g; refine s_wit ?_; intro z_g; (first | refine s_skip rfl z_g z_fp ?_ | (refine s_o [(55, _)] rfl z_g rfl z_su rfl q_full z_fp z_ss ?_)); clear z_g; refine s_o [(53, _), (56, _)] rfl rfl rfl z_su rfl q_move z_fp z_ss ?_; refine s_o [(57, _)] rfl rfl rfl z_su rfl q_move z_fp z_ss ?_; refine s_wit ?_; intro z_g; (first | refine s_skip rfl z_g z_fp ?_ | (refine s_o [(4, _)] rfl z_g rfl z_su rfl q_move z_fp z_ss ?_)); clear z_g; refine s_wit ?_; intro z_g; (first | refine s_skip rfl z_g z_fp ?_ | (refine s_o [(59, _)] rfl z_g rfl z_su rfl q_full z_fp z_ss ?_)); clear z_g; refine s_wit ?_; intro z_g; (first | refine s_skip rfl z_g z_fp ?_ | (refine s_o [(60, _)] rfl z_g rfl z_su rfl q_load z_fp z_ss ?_)); clear z_g; refine s_wit ?_; intro z_g; (first | refine s_skip rfl z_g z_fp ?_ | (refine s_o [(61, _)] rfl z_g rfl z_su rfl q_full z_fp z_ss ?_)); clear z_g; refine s_o [(58, _), (62, _)] rfl rfl rfl z_su rfl q_move z_fp z_ss ?_; refine s_o [(63, _)] rfl rfl rfl z_su rfl q_move z_fp z_ss ?_; refine s_wit ?_; intro z_g; (first | refine s_skip rfl z_g z_fp ?_ | (refine s_o [] rfl z_g rfl z_su rfl q_full z_fp z_ss ?_)); clear z_g; refine s_wit ?_; intro z_g; (first | refine s_skip rfl z_g z_fp ?_ | (refine s_o [(65, _)] rfl z_g rfl z_su rfl q_build z_fp z_ss ?_)); clear z_g; refine s_wit ?_; intro z_g; (first | refine s_skip rfl z_g z_fp ?_ | (refine s_pure (callOf_eq rfl rfl rfl (mlk_tmp z_lk mlk_nil)) (hck2) rfl z_g z_ip z_fp ?_)); clear z_g; refine s_wit ?_; intro z_g; (first | refine s_skip rfl z_g z_fp ?_ | (refine s_o [(67, _)] rfl z_g rfl z_su rfl q_full z_fp z_ss ?_)); clear z_g; refine s_o [(64, _), (68, _)] rfl rfl rfl z_su rfl q_move z_fp z_ss ?_; refine s_o [(69, _)] rfl rfl rfl z_su rfl q_move z_fp z_ss ?_; exact wpS_nil ⟨rfl, rfl⟩)) z_su ?_; clear z_ex)
  (refine WpM.ret ?_; refine ⟨.inr rfl, Upd.done ?_⟩; (simp (maxSteps := 2000000) (disch := omega) [go_sem, -List.map_map, resV, resVs, resV1,]))
end Go.Proofs.Ytjjmedgibcffhaa
/- The order of a drawn region, told with bits (fast for long regions). -/
namespace Go.Proofs.Ytjjmedgibcffhaa.M
open Go.RowKit
set_option linter.unusedVariables false
set_option linter.unusedSimpArgs false
def bitStep (acc : List Nat) (o : Oper) : List Nat :=
  acc ++ [o.after.toList.foldl (fun m e => if Region.binds .any e && decide (e.on < acc.length) then m ||| ((1 <<< e.on) ||| acc.getD e.on 0) else m) 0]
def bits (ops : Array Oper) : List Nat := ops.toList.foldl bitStep []
theorem bit_fold (acc : List (List Nat)) (bcc : List Nat) (hl : acc.length = bcc.length) (h : ∀ j i, (acc.getD j []).contains i = (bcc.getD j 0).testBit i) (i : Nat) : ∀ (es : List Edge) (m : Nat) (l : List Nat), l.contains i = m.testBit i →
    (l ++ es.flatMap fun e => if Region.binds .any e && decide (e.on < acc.length) then e.on :: acc.getD e.on [] else []).contains i = (es.foldl (fun m e => if Region.binds .any e && decide (e.on < bcc.length) then m ||| ((1 <<< e.on) ||| bcc.getD e.on 0) else m) m).testBit i
  | [], m, l, h0 => by simpa using h0
  | e :: es, m, l, h0 => by
    rw [List.flatMap_cons, List.foldl_cons, ← List.append_assoc]
    refine bit_fold acc bcc hl h i es _ _ ?_
    rw [hl]
    by_cases hc : (Region.binds .any e && decide (e.on < bcc.length)) = true
    · rw [if_pos hc, if_pos hc, Nat.testBit_or, Nat.testBit_or, ← h, ← h0]
      have h1 : (1 <<< e.on).testBit i = (i == e.on) := by
        rw [Nat.one_shiftLeft, Nat.testBit_two_pow]
        by_cases hie : e.on = i
        · subst hie; simp
        · have : ¬ i = e.on := fun h => hie h.symm
          simp [hie, this]
      rw [h1, List.contains_eq_any_beq, List.contains_eq_any_beq, List.contains_eq_any_beq, List.any_append, List.any_cons]
    · rw [if_neg hc, if_neg hc, List.append_nil]
      exact h0
theorem bit_all : ∀ (l : List Oper) (acc : List (List Nat)) (bcc : List Nat), acc.length = bcc.length → (∀ j i, (acc.getD j []).contains i = (bcc.getD j 0).testBit i) → ∀ j i, ((l.foldl ancStep acc).getD j []).contains i = ((l.foldl bitStep bcc).getD j 0).testBit i
  | [], acc, bcc, hl, h, j, i => h j i
  | o :: l, acc, bcc, hl, h, j, i => by
    rw [List.foldl_cons, List.foldl_cons]
    refine bit_all l _ _ (by simp [ancStep, bitStep, hl]) (fun j i => ?_) j i
    have := bit_fold acc bcc hl h i o.after.toList 0 [] (by simp)
    rw [List.nil_append] at this
    simp only [ancStep, bitStep]
    rcases Nat.lt_trichotomy j acc.length with h1 | h1 | h1
    · have e1 : ∀ x, (acc ++ [x]).getD j [] = acc.getD j [] := fun x => by simp only [List.getD_eq_getElem?_getD, List.getElem?_append, if_pos h1]
      have e2 : ∀ x, (bcc ++ [x]).getD j 0 = bcc.getD j 0 := fun x => by simp only [List.getD_eq_getElem?_getD, List.getElem?_append, if_pos (show j < bcc.length by omega)]
      rw [e1, e2]
      exact h j i
    · have e1 : ∀ x, (acc ++ [x]).getD j [] = x := fun x => by subst h1; simp
      have e2 : ∀ x, (bcc ++ [x]).getD j 0 = x := fun x => by rw [h1, hl]; simp
      rw [e1, e2]
      exact this
    · have e1 : ∀ x, (acc ++ [x]).getD j [] = [] := fun x => by rw [List.getD_eq_getElem?_getD, List.getElem?_eq_none (by simp; omega)]; rfl
      have e2 : ∀ x, (bcc ++ [x]).getD j 0 = 0 := fun x => by rw [List.getD_eq_getElem?_getD, List.getElem?_eq_none (by simp; omega)]; rfl
      rw [e1, e2]
      simp
theorem anc_bit (ops : Array Oper) (j i : Nat) : ((ancs ops).getD j []).contains i = ((bits ops).getD j 0).testBit i := bit_all ops.toList [] [] rfl (by simp) j i
def unordB (ops : Array Oper) : List (Nat × Nat) :=
  let an := bits ops
  (List.range ops.size).flatMap fun j => (List.range j).filterMap fun i =>
    match ops[i]?, ops[j]? with
    | some x, some y => if ((mayTouch x.op && (mayTouch y.op || mayRead y.op)) || (mayRead x.op && mayTouch y.op)) && !(an.getD j 0).testBit i then some (i, j) else none
    | _, _ => none
def slotsB (ops : Array Oper) : Bool :=
  let an := bits ops
  (List.range ops.size).all fun j => (List.range j).all fun i =>
    match ops[i]?, ops[j]? with
    | some x, some y => Oper.apart ops x y || (an.getD j 0).testBit i
    | _, _ => true
theorem unord_of {ops : Array Oper} {L : List (Nat × Nat)} (h : unordB ops = L) : unord ops = L := by
  rw [← h]
  unfold unord unordB
  simp only [anc_bit]
  rfl
theorem slots_of {ops : Array Oper} (h : slotsB ops = true) : slotsOk ops = true := by
  rw [← h]
  unfold slotsOk slotsB
  simp only [anc_bit]
  rfl
end Go.Proofs.Ytjjmedgibcffhaa.M
/- assizelaw05.IndexBeginnings. -/
namespace Go.Proofs.Ytjjmedgibcffhaa
open Go.RowKit M
set_option linter.unusedSimpArgs false
set_option linter.unusedVariables false
theorem evs_okEl (l : List EventD) : (l.map encEvent).all (okEl 3) = true := by
  simp [okEl, encEvent, D.cells, D.one]
set_option maxHeartbeats 8000000 in
theorem law13 (l : List EventD) (hok : SlOk EventOk 40 l) (k : Int) : PureC Try.prog 13 [.d (evs l), .d (.int .i64 k)] (.d (.bool true)) := by
  refine PureC.of (n := 148) Try.func13 rfl rfl (by simp) (by simp only [argL, Nat.reduceAdd] <;> rfl) rfl ?_
  intro n0 H hH
  have h28 := build28 l hok
  rw [buildV] at h28
  rcases build_cases l with ⟨e, he, hbf⟩ | ⟨ps, b, ts, hp, hbb⟩
  · rw [hbf] at h28
    ((repeat refine WpM.seq ?_); have z_ex := True.intro; refine WpM.regPE [] [(0, _), (1, _)] (by (refine s_o [] rfl rfl rfl z_su rfl q_move z_fp z_ss ?_; exact wpS_nil ⟨rfl, rfl⟩)) z_su ?_; clear z_ex)
    ((repeat refine WpM.seq ?_); have z_ex := True.intro; refine WpM.regPE [] [(0, _), (1, _), (15, _)] (by (refine s_pure (callOf_eq rfl rfl rfl mlk_nil) (alive27) rfl rfl z_ip z_fp ?_; refine s_o [(14, _)] rfl rfl rfl z_su rfl q_unOp z_fp z_ss ?_; exact wpS_nil ⟨rfl, rfl⟩)) z_su ?_; clear z_ex)
    ((repeat refine WpM.seq ?_); refine WpM.condF (by (simp (maxSteps := 2000000) (disch := omega) [go_sem, -List.map_map])) ?_)
    refine WpM.skip ?_
    ((repeat refine WpM.seq ?_); have z_ex := (And.intro @encHist.eq_1 (And.intro @fltV.eq_1 True.intro)); refine WpM.regPE [] [(0, _), (1, _), (5, _), (6, _)] (by (refine s_o [(0, _)] rfl rfl rfl z_su rfl q_move z_fp z_ss ?_; refine s_pure (callOf_eq rfl rfl rfl (mlk_tmp z_lk mlk_nil)) (h28) rfl rfl z_ip z_fp ?_; refine s_o [(18, _)] rfl rfl rfl z_su rfl q_move z_fp z_ss ?_; refine s_o [(16, _)] rfl rfl rfl z_su rfl q_extract z_fp z_ss ?_; refine s_o [(16, _)] rfl rfl rfl z_su rfl q_extract z_fp z_ss ?_; refine s_o [] rfl rfl rfl z_su rfl q_alloc z_fp z_ss ?_; refine s_o [] rfl rfl rfl z_su rfl q_alloc z_fp z_ss ?_; refine s_o [(5, _), (19, _)] rfl rfl rfl z_su rfl q_store z_fp z_ss ?_; refine s_o [(6, _), (20, _)] rfl rfl rfl z_su rfl q_store z_fp z_ss ?_; exact wpS_nil ⟨rfl, rfl⟩)) z_su ?_; clear z_ex)
    ((repeat refine WpM.seq ?_); have z_ex := (And.intro @he True.intro); refine WpM.regPE [] [(0, _), (1, _), (5, _), (23, _)] (by (refine s_o [(6, _)] rfl rfl rfl z_su rfl q_fieldAddr z_fp z_ss ?_; refine s_o [(21, _)] rfl rfl rfl z_su rfl q_load z_fp z_ss ?_; refine s_o [(22, _)] rfl rfl rfl z_su rfl q_full z_fp z_ss ?_; exact wpS_nil ⟨rfl, rfl⟩)) z_su ?_; clear z_ex)
    ((repeat refine WpM.seq ?_); refine WpM.condT (by (simp (maxSteps := 2000000) (disch := omega) [go_sem, -List.map_map, he])) ?_)
    ((repeat refine WpM.seq ?_); have z_ex := True.intro; refine WpM.regPE [] [(4, _)] (by (refine s_o [(5, _)] rfl rfl rfl z_su rfl q_fieldAddr z_fp z_ss ?_; refine s_o [(24, _)] rfl rfl rfl z_su rfl q_load z_fp z_ss ?_; refine s_o [(25, _)] rfl rfl rfl z_su rfl q_full z_fp z_ss ?_; refine s_o [(26, _)] rfl rfl rfl z_su rfl q_full z_fp z_ss ?_; refine s_o [(27, _)] rfl rfl rfl z_su rfl q_move z_fp z_ss ?_; exact wpS_nil ⟨rfl, rfl⟩)) z_su ?_; clear z_ex)
    (refine WpM.ret ?_; refine ⟨.inr rfl, Upd.done ?_⟩; (simp (maxSteps := 2000000) (disch := omega) [go_sem, -List.map_map, resV, resVs, resV1,]))
  rw [buildF_ok hp hbb] at h28
  obtain ⟨n, hn, hnl⟩ := pick_n k l.length hok.1
  have hn64 : IntKind.i64.wrap (n : Int) = n := wrap_id (by have := hok.1; omega) (by have := hok.1; omega)
  have hl0 : ¬ (l.length : Int) + 1 = 0 := by omega
  have hok' : SlOk EventOk 40 (l.take n) := ⟨by have := hok.1; simp only [List.length_take]; omega, fun e he => hok.2 e (List.mem_of_mem_take he)⟩
  have h28' := build28 (l.take n) hok'
  rw [buildV] at h28'
  obtain ⟨g, hg, hpre, hgk32, hgl, hbeg⟩ := begins_build hp hbb hnl
  rw [hg] at h28'
  have e28 : V.d (evs (l.take n)) = .d (.sl ((l.map encEvent).take n)) := by rw [evs, List.map_take]
  rw [e28] at h28'
  clear e28
  have hev := evs_okEl l
  have hnl' : (n : Int) ≤ l.length := by omega
  have hl64 : IntKind.u64.wrap (IntKind.i64.wrap ((l.length : Int) + 1)) = (l.length : Int) + 1 := by
    have := hok.1
    rw [wrap_id (by omega) (by omega)]
    simp [IntKind.wrap, IntKind.bits, IntKind.signed]
    omega
  ((repeat refine WpM.seq ?_); have z_ex := True.intro; refine WpM.regPE [] [(0, _), (1, _)] (by (refine s_o [] rfl rfl rfl z_su rfl q_move z_fp z_ss ?_; exact wpS_nil ⟨rfl, rfl⟩)) z_su ?_; clear z_ex)
  ((repeat refine WpM.seq ?_); have z_ex := True.intro; refine WpM.regPE [] [(0, _), (1, _), (15, _)] (by (refine s_pure (callOf_eq rfl rfl rfl mlk_nil) (alive27) rfl rfl z_ip z_fp ?_; refine s_o [(14, _)] rfl rfl rfl z_su rfl q_unOp z_fp z_ss ?_; exact wpS_nil ⟨rfl, rfl⟩)) z_su ?_; clear z_ex)
  ((repeat refine WpM.seq ?_); refine WpM.condF (by (simp (maxSteps := 2000000) (disch := omega) [go_sem, -List.map_map])) ?_)
  refine WpM.skip ?_
  ((repeat refine WpM.seq ?_); have z_ex := (And.intro @encHist.eq_1 (And.intro @fltV.eq_1 True.intro)); refine WpM.regPE [] [(0, _), (1, _), (5, _), (6, _)] (by (refine s_o [(0, _)] rfl rfl rfl z_su rfl q_move z_fp z_ss ?_; refine s_pure (callOf_eq rfl rfl rfl (mlk_tmp z_lk mlk_nil)) (h28) rfl rfl z_ip z_fp ?_; refine s_o [(18, _)] rfl rfl rfl z_su rfl q_move z_fp z_ss ?_; refine s_o [(16, _)] rfl rfl rfl z_su rfl q_extract z_fp z_ss ?_; refine s_o [(16, _)] rfl rfl rfl z_su rfl q_extract z_fp z_ss ?_; refine s_o [] rfl rfl rfl z_su rfl q_alloc z_fp z_ss ?_; refine s_o [] rfl rfl rfl z_su rfl q_alloc z_fp z_ss ?_; refine s_o [(5, _), (19, _)] rfl rfl rfl z_su rfl q_store z_fp z_ss ?_; refine s_o [(6, _), (20, _)] rfl rfl rfl z_su rfl q_store z_fp z_ss ?_; exact wpS_nil ⟨rfl, rfl⟩)) z_su ?_; clear z_ex)
  ((repeat refine WpM.seq ?_); have z_ex := True.intro; refine WpM.regPE [] [(0, _), (1, _), (5, _), (23, _)] (by (refine s_o [(6, _)] rfl rfl rfl z_su rfl q_fieldAddr z_fp z_ss ?_; refine s_o [(21, _)] rfl rfl rfl z_su rfl q_load z_fp z_ss ?_; refine s_o [(22, _)] rfl rfl rfl z_su rfl q_full z_fp z_ss ?_; exact wpS_nil ⟨rfl, rfl⟩)) z_su ?_; clear z_ex)
  ((repeat refine WpM.seq ?_); refine WpM.condF (by (simp (maxSteps := 2000000) (disch := omega) [go_sem, -List.map_map])) ?_)
  refine WpM.skip ?_
  ((repeat refine WpM.seq ?_); have z_ex := (And.intro @evs.eq_1 (And.intro @hn (And.intro @hn64 (And.intro @hl64 (And.intro @hl0 True.intro))))); refine WpM.regPE [] [(0, _), (5, _), (7, _)] (by (refine s_o [(1, _)] rfl rfl rfl z_su rfl q_move z_fp z_ss ?_; refine s_o [(28, _)] rfl rfl rfl z_su rfl q_full z_fp z_ss ?_; refine s_o [(0, _)] rfl rfl rfl z_su rfl q_move z_fp z_ss ?_; refine s_o [(30, _)] rfl rfl rfl z_su rfl q_full z_fp z_ss ?_; refine s_o [(31, _)] rfl rfl rfl z_su rfl q_full z_fp z_ss ?_; refine s_o [(32, _)] rfl rfl rfl z_su rfl q_full z_fp z_ss ?_; refine s_o [(29, _), (33, _)] rfl rfl rfl z_su rfl q_full z_fp z_ss ?_; refine s_o [(34, _)] rfl rfl rfl z_su rfl q_full z_fp z_ss ?_; refine s_o [(35, _)] rfl rfl rfl z_su rfl q_move z_fp z_ss ?_; exact wpS_nil ⟨rfl, rfl⟩)) z_su ?_; clear z_ex)
  ((repeat refine WpM.seq ?_); have z_ex := (And.intro @evs.eq_1 (And.intro @hev (And.intro @hnl' (And.intro @encHist.eq_1 (And.intro @fltV.eq_1 True.intro))))); refine WpM.regPE [] [(5, _), (7, _), (8, _), (9, _)] (by (refine s_o [(0, _)] rfl rfl rfl z_su rfl q_move z_fp z_ss ?_; refine s_o [(7, _)] rfl rfl rfl z_su rfl q_move z_fp z_ss ?_; refine s_o [(37, _), (38, _)] rfl rfl rfl z_su rfl q_full z_fp z_ss ?_; refine s_pure (callOf_eq rfl rfl rfl (mlk_tmp z_lk mlk_nil)) (h28') rfl rfl z_ip z_fp ?_; refine s_o [(40, _)] rfl rfl rfl z_su rfl q_move z_fp z_ss ?_; refine s_o [(36, _)] rfl rfl rfl z_su rfl q_extract z_fp z_ss ?_; refine s_o [(36, _)] rfl rfl rfl z_su rfl q_extract z_fp z_ss ?_; refine s_o [] rfl rfl rfl z_su rfl q_alloc z_fp z_ss ?_; refine s_o [] rfl rfl rfl z_su rfl q_alloc z_fp z_ss ?_; refine s_o [(8, _), (41, _)] rfl rfl rfl z_su rfl q_store z_fp z_ss ?_; refine s_o [(9, _), (42, _)] rfl rfl rfl z_su rfl q_store z_fp z_ss ?_; exact wpS_nil ⟨rfl, rfl⟩)) z_su ?_; clear z_ex)
  have hkl : g.keys.length ≤ b.keys.length := hpre.length_le
  have hgl' : ¬ (ts.length : Int) < g.txns.length := by omega
  have hkl' : ¬ (b.keys.length : Int) < g.keys.length := by omega
  have ht32 : ts.length ≤ 32 := by have := (buildSt_wf hp (Nat.le_refl _) hbb).2.2; have := (txns_get hp hbb).1; omega
  ((repeat refine WpM.seq ?_); have z_ex := (And.intro @strs.eq_1 (And.intro @hgl' (And.intro @hkl' True.intro))); refine WpM.regPE [] [(5, _), (7, _), (8, _), (63, _)] (by (refine s_o [(9, _)] rfl rfl rfl z_su rfl q_fieldAddr z_fp z_ss ?_; refine s_o [(43, _)] rfl rfl rfl z_su rfl q_load z_fp z_ss ?_; refine s_o [(44, _)] rfl rfl rfl z_su rfl q_full z_fp z_ss ?_; refine s_o [(45, _)] rfl rfl rfl z_su rfl q_move z_fp z_ss ?_; refine s_wit ?_; intro z_g; (first | refine s_skip rfl z_g z_fp ?_ | (refine s_o [(8, _)] rfl z_g rfl z_su rfl q_fieldAddr z_fp z_ss ?_)); clear z_g; refine s_wit ?_; intro z_g; (first | refine s_skip rfl z_g z_fp ?_ | (refine s_o [(47, _)] rfl z_g rfl z_su rfl q_load z_fp z_ss ?_)); clear z_g; refine s_wit ?_; intro z_g; (first | refine s_skip rfl z_g z_fp ?_ | (refine s_o [(48, _)] rfl z_g rfl z_su rfl q_full z_fp z_ss ?_)); clear z_g; refine s_wit ?_; intro z_g; (first | refine s_skip rfl z_g z_fp ?_ | (refine s_o [(5, _)] rfl z_g rfl z_su rfl q_fieldAddr z_fp z_ss ?_)); clear z_g; refine s_wit ?_; intro z_g; (first | refine s_skip rfl z_g z_fp ?_ | (refine s_o [(50, _)] rfl z_g rfl z_su rfl q_load z_fp z_ss ?_)); clear z_g; refine s_wit ?_; intro z_g; (first | refine s_skip rfl z_g z_fp ?_ | (refine s_o [(51, _)] rfl z_g rfl z_su rfl q_full z_fp z_ss ?_)); clear z_g; refine s_wit ?_; intro z_g; (first | refine s_skip rfl z_g z_fp ?_ | (refine s_o [(49, _), (52, _)] rfl z_g rfl z_su rfl q_full z_fp z_ss ?_)); clear z_g; refine s_o [(46, _), (53, _)] rfl rfl rfl z_su rfl q_move z_fp z_ss ?_; refine s_o [(54, _)] rfl rfl rfl z_su rfl q_move z_fp z_ss ?_; refine s_wit ?_; intro z_g; (first | refine s_skip rfl z_g z_fp ?_ | (refine s_o [(8, _)] rfl z_g rfl z_su rfl q_fieldAddr z_fp z_ss ?_)); clear z_g; refine s_wit ?_; intro z_g; (first | refine s_skip rfl z_g z_fp ?_ | (refine s_o [(56, _)] rfl z_g rfl z_su rfl q_load z_fp z_ss ?_)); clear z_g; refine s_wit ?_; intro z_g; (first | refine s_skip rfl z_g z_fp ?_ | (refine s_o [(57, _)] rfl z_g rfl z_su rfl q_full z_fp z_ss ?_)); clear z_g; refine s_wit ?_; intro z_g; (first | refine s_skip rfl z_g z_fp ?_ | (refine s_o [(5, _)] rfl z_g rfl z_su rfl q_fieldAddr z_fp z_ss ?_)); clear z_g; refine s_wit ?_; intro z_g; (first | refine s_skip rfl z_g z_fp ?_ | (refine s_o [(59, _)] rfl z_g rfl z_su rfl q_load z_fp z_ss ?_)); clear z_g; refine s_wit ?_; intro z_g; (first | refine s_skip rfl z_g z_fp ?_ | (refine s_o [(60, _)] rfl z_g rfl z_su rfl q_full z_fp z_ss ?_)); clear z_g; refine s_wit ?_; intro z_g; (first | refine s_skip rfl z_g z_fp ?_ | (refine s_o [(58, _), (61, _)] rfl z_g rfl z_su rfl q_full z_fp z_ss ?_)); clear z_g; refine s_o [(55, _), (62, _)] rfl rfl rfl z_su rfl q_move z_fp z_ss ?_; exact wpS_nil ⟨rfl, rfl⟩)) z_su ?_; clear z_ex)
  ((repeat refine WpM.seq ?_); refine WpM.condF (by (simp (maxSteps := 2000000) (disch := omega) [go_sem, -List.map_map, hkl', hgl'])) ?_)
  refine WpM.skip ?_
  ((repeat refine WpM.seq ?_); have z_ex := True.intro; refine WpM.regPE [] [(5, _), (7, _), (8, _), (10, _)] (by (refine s_o [] rfl rfl rfl z_su rfl q_move z_fp z_ss ?_; exact wpS_nil ⟨rfl, rfl⟩)) z_su ?_; clear z_ex)
  ((repeat refine WpM.seq ?_); refine WpM.block ?_)
  refine WpM.loop (fun (i : Nat) fr S => i ≤ g.keys.length ∧ (∃ nx, n0 + 29 ≤ nx ∧ S = ⟨nx, [(n0 + 6, some (.box [.d (strs b.keys), .d (.sl (ts.map encTxn))])), (n0 + 28, some (.box [.d (strs g.keys), .d (.sl (g.txns.map encTxn))]))], H⟩) ∧ fr = frOf [(5, .ptr (n0 + 6) 0), (7, .d (.int .i64 n)), (8, .ptr (n0 + 28) 0), (10, .d (.int .i64 i))]) (fun i => g.keys.length - i) 0 (le_cut (n0 := n0) (l' := [(n0 + 6, some (.box [.d (strs b.keys), .d (.sl (ts.map encTxn))])), (n0 + 28, some (.box [.d (strs g.keys), .d (.sl (g.txns.map encTxn))]))]) hH (by (simp (maxSteps := 2000000) (disch := omega) [go_sem, -List.map_map])) (Nat.le_refl _) (by (simp (maxSteps := 2000000) (disch := omega) [go_sem, -List.map_map, strs]))) (Sub.le z_su) ⟨by omega, ⟨_, by omega, rfl⟩, rfl⟩ ?_
  rintro i fr S' ⟨hi, ⟨nx, hnx, rfl⟩, rfl⟩
  ((repeat refine WpM.seq ?_); have z_ex := (And.intro @strs.eq_1 True.intro); refine WpM.regPE [] [(5, _), (7, _), (8, _), (10, _), (68, _)] (by (refine s_o [(10, _)] rfl rfl rfl z_su rfl q_move z_fp z_ss ?_; refine s_o [(8, _)] rfl rfl rfl z_su rfl q_fieldAddr z_fp z_ss ?_; refine s_o [(65, _)] rfl rfl rfl z_su rfl q_load z_fp z_ss ?_; refine s_o [(66, _)] rfl rfl rfl z_su rfl q_full z_fp z_ss ?_; refine s_o [(64, _), (67, _)] rfl rfl rfl z_su rfl q_full z_fp z_ss ?_; exact wpS_nil ⟨rfl, rfl⟩)) z_su ?_; clear z_ex)
  by_cases hit : i < g.keys.length
  · ((repeat refine WpM.seq ?_); refine WpM.condT (by (simp (maxSteps := 2000000) (disch := omega) [go_sem, -List.map_map, hit])) ?_)
    refine WpM.skip ?_
    ((repeat refine WpM.seq ?_); refine WpM.block ?_)
    have hge : (g.keys.map D.str)[i]? = some (.str g.keys[i]) := by simp [hit]
    have hbe : (b.keys.map D.str)[i]? = some (.str g.keys[i]) := by
      rw [List.getElem?_map, List.getElem?_eq_getElem (by omega), ← hpre.getElem hit]
      rfl
    have hib : i < b.keys.length := by omega
    ((repeat refine WpM.seq ?_); have z_ex := (And.intro @strs.eq_1 (And.intro @hge (And.intro @hbe (And.intro @hit (And.intro @hib True.intro))))); refine WpM.drwPE [] [(5, _), (7, _), (8, _), (10, _), (81, _)] mixed (slots_of (by kernel_rfl)) (by kernel_rfl) [] (unord_of (by kernel_rfl)) (by (refine d_o [(8, _)] rfl rfl rfl z_su rfl q_fieldAddr z_fp z_ss rfl ?_; refine d_o [(71, _)] rfl rfl rfl z_su rfl q_load z_fp z_ss rfl ?_; refine d_o [(10, _)] rfl rfl rfl z_su rfl q_move z_fp z_ss rfl ?_; refine d_o [(72, _), (73, _)] rfl rfl rfl z_su rfl q_full z_fp z_ss rfl ?_; refine d_o [(74, _)] rfl rfl rfl z_su rfl q_load z_fp z_ss rfl ?_; refine d_o [(5, _)] rfl rfl rfl z_su rfl q_fieldAddr z_fp z_ss rfl ?_; refine d_o [(76, _)] rfl rfl rfl z_su rfl q_load z_fp z_ss rfl ?_; refine d_o [(10, _)] rfl rfl rfl z_su rfl q_move z_fp z_ss rfl ?_; refine d_o [(77, _), (78, _)] rfl rfl rfl z_su rfl q_full z_fp z_ss rfl ?_; refine d_o [(79, _)] rfl rfl rfl z_su rfl q_load z_fp z_ss rfl ?_; refine d_o [(75, _), (80, _)] rfl rfl rfl z_su rfl q_full z_fp z_ss rfl ?_; exact d_end z_mt z_sn)) z_su ?_; clear z_ex)
    ((repeat refine WpM.seq ?_); refine WpM.condF (by (simp (maxSteps := 2000000) (disch := omega) [go_sem, -List.map_map])) ?_)
    refine WpM.skip ?_
    ((repeat refine WpM.seq ?_); have z_ex := (And.intro @wrap_id True.intro); refine WpM.regPE [] [(5, _), (7, _), (8, _), (10, _)] (by (refine s_o [(10, _)] rfl rfl rfl z_su rfl q_move z_fp z_ss ?_; refine s_o [(69, _)] rfl rfl rfl z_su rfl q_full z_fp z_ss ?_; refine s_o [(70, _)] rfl rfl rfl z_su rfl q_move z_fp z_ss ?_; exact wpS_nil ⟨rfl, rfl⟩)) z_su ?_; clear z_ex)
    exact round_end (x' := i + 1) (St.Le.refl _) (Sub.le z_su) ⟨by omega, ⟨_, by omega, rfl⟩, rfl⟩ (by omega)
  · ((repeat refine WpM.seq ?_); refine WpM.condF (by (simp (maxSteps := 2000000) (disch := omega) [go_sem, -List.map_map, hit])) ?_)
    (refine WpM.exit ?_; (repeat (with_reducible (first | refine thenM_exit ?_ | refine blockM_eq ?_ | refine blockM_ne (by decide) ?_))))
    ((repeat refine WpM.seq ?_); have z_ex := True.intro; refine WpM.regPE [] [(5, _), (7, _), (8, _), (11, _)] (by (refine s_o [] rfl rfl rfl z_su rfl q_move z_fp z_ss ?_; exact wpS_nil ⟨rfl, rfl⟩)) z_su ?_; clear z_ex)
    ((repeat refine WpM.seq ?_); refine WpM.block ?_)
    refine WpM.loop (fun (i : Nat) fr S => i ≤ g.txns.length ∧ (∃ nx, n0 + 29 ≤ nx ∧ S = ⟨nx, [(n0 + 6, some (.box [.d (strs b.keys), .d (.sl (ts.map encTxn))])), (n0 + 28, some (.box [.d (strs g.keys), .d (.sl (g.txns.map encTxn))]))], H⟩) ∧ fr = frOf [(5, .ptr (n0 + 6) 0), (7, .d (.int .i64 n)), (8, .ptr (n0 + 28) 0), (11, .d (.int .i64 i))]) (fun i => g.txns.length - i) 0 (St.Le.refl _) (Sub.le z_su) ⟨by omega, ⟨_, by omega, rfl⟩, rfl⟩ ?_
    rintro i fr S' ⟨hi, ⟨nx2, hnx2, rfl⟩, rfl⟩
    ((repeat refine WpM.seq ?_); have z_ex := True.intro; refine WpM.regPE [] [(5, _), (7, _), (8, _), (11, _), (86, _)] (by (refine s_o [(11, _)] rfl rfl rfl z_su rfl q_move z_fp z_ss ?_; refine s_o [(8, _)] rfl rfl rfl z_su rfl q_fieldAddr z_fp z_ss ?_; refine s_o [(83, _)] rfl rfl rfl z_su rfl q_load z_fp z_ss ?_; refine s_o [(84, _)] rfl rfl rfl z_su rfl q_full z_fp z_ss ?_; refine s_o [(82, _), (85, _)] rfl rfl rfl z_su rfl q_full z_fp z_ss ?_; exact wpS_nil ⟨rfl, rfl⟩)) z_su ?_; clear z_ex)
    by_cases hit : i < g.txns.length
    · ((repeat refine WpM.seq ?_); refine WpM.condT (by (simp (maxSteps := 2000000) (disch := omega) [go_sem, -List.map_map, hit])) ?_)
      refine WpM.skip ?_
      ((repeat refine WpM.seq ?_); refine WpM.block ?_)
      have hit2 : i < ts.length := by omega
      obtain ⟨b1, b2, b3, b4, b5⟩ := hbeg i hit hit2
      obtain ⟨x, hx⟩ : ∃ x, x = g.txns[i] := ⟨_, rfl⟩
      obtain ⟨y, hy⟩ : ∃ y, y = ts[i] := ⟨_, rfl⟩
      have hge : (g.txns.map encTxn)[i]? = some (encTxn x) := by simp [hit, hx]
      have hbe : (ts.map encTxn)[i]? = some (encTxn y) := by simp [hit2, hy]
      rw [← hx, ← hy] at b1 b2 b3 b4 b5
      ((repeat refine WpM.seq ?_); have z_ex := (And.intro @hge (And.intro @hbe (And.intro @hit (And.intro @hit2 (And.intro @encTxn.eq_1 True.intro))))); refine WpM.drwPE [] [(5, _), (7, _), (8, _), (11, _), (12, _), (13, _)] mixed (slots_of (by kernel_rfl)) (by kernel_rfl) [(1, 10), (4, 10), (6, 10), (9, 10), (1, 11), (4, 11), (6, 11), (9, 11), (10, 11), (6, 12), (9, 12)] (unord_of (by kernel_rfl)) (by (refine d_o [(8, _)] rfl rfl rfl z_su rfl q_fieldAddr z_fp z_ss rfl ?_; refine d_o [(89, _)] rfl rfl rfl z_su rfl q_load z_fp z_ss rfl ?_; refine d_o [(11, _)] rfl rfl rfl z_su rfl q_move z_fp z_ss rfl ?_; refine d_o [(90, _), (91, _)] rfl rfl rfl z_su rfl q_full z_fp z_ss rfl ?_; refine d_o [(92, _)] rfl rfl rfl z_su rfl q_load z_fp z_ss rfl ?_; refine d_o [(5, _)] rfl rfl rfl z_su rfl q_fieldAddr z_fp z_ss rfl ?_; refine d_o [(94, _)] rfl rfl rfl z_su rfl q_load z_fp z_ss rfl ?_; refine d_o [(11, _)] rfl rfl rfl z_su rfl q_move z_fp z_ss rfl ?_; refine d_o [(95, _), (96, _)] rfl rfl rfl z_su rfl q_full z_fp z_ss rfl ?_; refine d_o [(97, _)] rfl rfl rfl z_su rfl q_load z_fp z_ss rfl ?_; refine d_o [] rfl rfl rfl z_su rfl q_alloc z_fp z_ss rfl ?_; refine d_o [] rfl rfl rfl z_su rfl q_alloc z_fp z_ss rfl ?_; refine d_o [(12, _), (93, _)] rfl rfl rfl z_su rfl q_store z_fp z_ss rfl ?_; refine d_o [(13, _), (98, _)] rfl rfl rfl z_su rfl q_store z_fp z_ss rfl ?_; exact d_end z_mt z_sn)) z_su ?_; clear z_ex)
      by_cases hto : x.to = -1
      · by_cases hy0 : y.to < 0
        · have hy0' : ¬ 0 ≤ y.to := by omega
          ((repeat refine WpM.seq ?_); have z_ex := (And.intro @b1 (And.intro @b2 (And.intro @b3 (And.intro @hto (And.intro @hy0' True.intro))))); refine WpM.regPE [] [(5, _), (7, _), (8, _), (11, _), (147, _)] (by (refine s_o [(12, _)] rfl rfl rfl z_su rfl q_fieldAddr z_fp z_ss ?_; refine s_o [(99, _)] rfl rfl rfl z_su rfl q_load z_fp z_ss ?_; refine s_o [(13, _)] rfl rfl rfl z_su rfl q_fieldAddr z_fp z_ss ?_; refine s_o [(101, _)] rfl rfl rfl z_su rfl q_load z_fp z_ss ?_; refine s_o [(100, _), (102, _)] rfl rfl rfl z_su rfl q_full z_fp z_ss ?_; refine s_o [(103, _)] rfl rfl rfl z_su rfl q_move z_fp z_ss ?_; refine s_wit ?_; intro z_g; (first | refine s_skip rfl z_g z_fp ?_ | (refine s_o [(12, _)] rfl z_g rfl z_su rfl q_fieldAddr z_fp z_ss ?_)); clear z_g; refine s_wit ?_; intro z_g; (first | refine s_skip rfl z_g z_fp ?_ | (refine s_o [(105, _)] rfl z_g rfl z_su rfl q_load z_fp z_ss ?_)); clear z_g; refine s_wit ?_; intro z_g; (first | refine s_skip rfl z_g z_fp ?_ | (refine s_o [(13, _)] rfl z_g rfl z_su rfl q_fieldAddr z_fp z_ss ?_)); clear z_g; refine s_wit ?_; intro z_g; (first | refine s_skip rfl z_g z_fp ?_ | (refine s_o [(107, _)] rfl z_g rfl z_su rfl q_load z_fp z_ss ?_)); clear z_g; refine s_wit ?_; intro z_g; (first | refine s_skip rfl z_g z_fp ?_ | (refine s_o [(106, _), (108, _)] rfl z_g rfl z_su rfl q_full z_fp z_ss ?_)); clear z_g; refine s_o [(104, _), (109, _)] rfl rfl rfl z_su rfl q_move z_fp z_ss ?_; refine s_o [(110, _)] rfl rfl rfl z_su rfl q_move z_fp z_ss ?_; refine s_wit ?_; intro z_g; (first | refine s_skip rfl z_g z_fp ?_ | (refine s_o [(12, _)] rfl z_g rfl z_su rfl q_fieldAddr z_fp z_ss ?_)); clear z_g; refine s_wit ?_; intro z_g; (first | refine s_skip rfl z_g z_fp ?_ | (refine s_o [(112, _)] rfl z_g rfl z_su rfl q_load z_fp z_ss ?_)); clear z_g; refine s_wit ?_; intro z_g; (first | refine s_skip rfl z_g z_fp ?_ | (refine s_o [(113, _)] rfl z_g rfl z_su rfl q_full z_fp z_ss ?_)); clear z_g; refine s_wit ?_; intro z_g; (first | refine s_skip rfl z_g z_fp ?_ | (refine s_o [(13, _)] rfl z_g rfl z_su rfl q_fieldAddr z_fp z_ss ?_)); clear z_g; refine s_wit ?_; intro z_g; (first | refine s_skip rfl z_g z_fp ?_ | (refine s_o [(115, _)] rfl z_g rfl z_su rfl q_load z_fp z_ss ?_)); clear z_g; refine s_wit ?_; intro z_g; (first | refine s_skip rfl z_g z_fp ?_ | (refine s_o [(116, _)] rfl z_g rfl z_su rfl q_full z_fp z_ss ?_)); clear z_g; refine s_wit ?_; intro z_g; (first | refine s_skip rfl z_g z_fp ?_ | (refine s_o [(114, _), (117, _)] rfl z_g rfl z_su rfl q_full z_fp z_ss ?_)); clear z_g; refine s_o [(111, _), (118, _)] rfl rfl rfl z_su rfl q_move z_fp z_ss ?_; refine s_o [(119, _)] rfl rfl rfl z_su rfl q_move z_fp z_ss ?_; refine s_wit ?_; intro z_g; (first | refine s_skip rfl z_g z_fp ?_ | (refine s_o [(12, _)] rfl z_g rfl z_su rfl q_fieldAddr z_fp z_ss ?_)); clear z_g; refine s_wit ?_; intro z_g; (first | refine s_skip rfl z_g z_fp ?_ | (refine s_o [(121, _)] rfl z_g rfl z_su rfl q_load z_fp z_ss ?_)); clear z_g; refine s_wit ?_; intro z_g; (first | refine s_skip rfl z_g z_fp ?_ | (refine s_o [(122, _)] rfl z_g rfl z_su rfl q_full z_fp z_ss ?_)); clear z_g; refine s_wit ?_; intro z_g; (first | refine s_skip rfl z_g z_fp ?_ | (refine s_o [(123, _)] rfl z_g rfl z_su rfl q_move z_fp z_ss ?_)); clear z_g; refine s_wit ?_; intro z_g; (first | refine s_skip rfl z_g z_fp ?_ | (refine s_o [(12, _)] rfl z_g rfl z_su rfl q_fieldAddr z_fp z_ss ?_)); clear z_g; refine s_wit ?_; intro z_g; (first | refine s_skip rfl z_g z_fp ?_ | (refine s_o [(125, _)] rfl z_g rfl z_su rfl q_load z_fp z_ss ?_)); clear z_g; refine s_wit ?_; intro z_g; (first | refine s_skip rfl z_g z_fp ?_ | (refine s_o [(13, _)] rfl z_g rfl z_su rfl q_fieldAddr z_fp z_ss ?_)); clear z_g; refine s_wit ?_; intro z_g; (first | refine s_skip rfl z_g z_fp ?_ | (refine s_o [(127, _)] rfl z_g rfl z_su rfl q_load z_fp z_ss ?_)); clear z_g; refine s_wit ?_; intro z_g; (first | refine s_skip rfl z_g z_fp ?_ | (refine s_o [(126, _), (128, _)] rfl z_g rfl z_su rfl q_full z_fp z_ss ?_)); clear z_g; refine s_wit ?_; intro z_g; (first | refine s_skip rfl z_g z_fp ?_ | (refine s_o [(124, _), (129, _)] rfl z_g rfl z_su rfl q_move z_fp z_ss ?_)); clear z_g; refine s_o [(120, _), (130, _)] rfl rfl rfl z_su rfl q_move z_fp z_ss ?_; refine s_o [(131, _)] rfl rfl rfl z_su rfl q_move z_fp z_ss ?_; refine s_wit ?_; intro z_g; (first | refine s_skip rfl z_g z_fp ?_ | (refine s_o [(12, _)] rfl z_g rfl z_su rfl q_fieldAddr z_fp z_ss ?_)); clear z_g; refine s_wit ?_; intro z_g; (first | refine s_skip rfl z_g z_fp ?_ | (refine s_o [(133, _)] rfl z_g rfl z_su rfl q_load z_fp z_ss ?_)); clear z_g; refine s_wit ?_; intro z_g; (first | refine s_skip rfl z_g z_fp ?_ | (refine s_o [(134, _)] rfl z_g rfl z_su rfl q_full z_fp z_ss ?_)); clear z_g; refine s_wit ?_; intro z_g; (first | refine s_skip rfl z_g z_fp ?_ | (refine s_o [(135, _)] rfl z_g rfl z_su rfl q_move z_fp z_ss ?_)); clear z_g; refine s_wit ?_; intro z_g; (first | refine s_skip rfl z_g z_fp ?_ | (refine s_o [(13, _)] rfl z_g rfl z_su rfl q_fieldAddr z_fp z_ss ?_)); clear z_g; refine s_wit ?_; intro z_g; (first | refine s_skip rfl z_g z_fp ?_ | (refine s_o [(137, _)] rfl z_g rfl z_su rfl q_load z_fp z_ss ?_)); clear z_g; refine s_wit ?_; intro z_g; (first | refine s_skip rfl z_g z_fp ?_ | (refine s_o [(138, _)] rfl z_g rfl z_su rfl q_full z_fp z_ss ?_)); clear z_g; refine s_wit ?_; intro z_g; (first | refine s_skip rfl z_g z_fp ?_ | (refine s_o [(136, _), (139, _)] rfl z_g rfl z_su rfl q_move z_fp z_ss ?_)); clear z_g; refine s_wit ?_; intro z_g; (first | refine s_skip rfl z_g z_fp ?_ | (refine s_o [(140, _)] rfl z_g rfl z_su rfl q_move z_fp z_ss ?_)); clear z_g; refine s_wit ?_; intro z_g; (first | refine s_skip rfl z_g z_fp ?_ | (refine s_o [(13, _)] rfl z_g rfl z_su rfl q_fieldAddr z_fp z_ss ?_)); clear z_g; refine s_wit ?_; intro z_g; (first | refine s_skip rfl z_g z_fp ?_ | (refine s_o [(142, _)] rfl z_g rfl z_su rfl q_load z_fp z_ss ?_)); clear z_g; refine s_wit ?_; intro z_g; (first | refine s_skip rfl z_g z_fp ?_ | (refine s_o [(7, _)] rfl z_g rfl z_su rfl q_move z_fp z_ss ?_)); clear z_g; refine s_wit ?_; intro z_g; (first | refine s_skip rfl z_g z_fp ?_ | (refine s_o [(143, _), (144, _)] rfl z_g rfl z_su rfl q_full z_fp z_ss ?_)); clear z_g; refine s_wit ?_; intro z_g; (first | refine s_skip rfl z_g z_fp ?_ | (refine s_o [(141, _), (145, _)] rfl z_g rfl z_su rfl q_move z_fp z_ss ?_)); clear z_g; refine s_o [(132, _), (146, _)] rfl rfl rfl z_su rfl q_move z_fp z_ss ?_; exact wpS_nil ⟨rfl, rfl⟩)) z_su ?_; clear z_ex)
          ((repeat refine WpM.seq ?_); refine WpM.condF (by (simp (maxSteps := 2000000) (disch := omega) [go_sem, -List.map_map])) ?_)
          refine WpM.skip ?_
          ((repeat refine WpM.seq ?_); have z_ex := (And.intro @wrap_id True.intro); refine WpM.regPE [] [(5, _), (7, _), (8, _), (11, _)] (by (refine s_o [(11, _)] rfl rfl rfl z_su rfl q_move z_fp z_ss ?_; refine s_o [(87, _)] rfl rfl rfl z_su rfl q_full z_fp z_ss ?_; refine s_o [(88, _)] rfl rfl rfl z_su rfl q_move z_fp z_ss ?_; exact wpS_nil ⟨rfl, rfl⟩)) z_su ?_; clear z_ex)
          exact round_end (x' := i + 1) (le_cut (n0 := n0) (l' := [(n0 + 6, some (.box [.d (strs b.keys), .d (.sl (ts.map encTxn))])), (n0 + 28, some (.box [.d (strs g.keys), .d (.sl (g.txns.map encTxn))]))]) hH (by (simp (maxSteps := 2000000) (disch := omega) [go_sem, -List.map_map]); omega) (Nat.le_refl _) (by (simp (maxSteps := 2000000) (disch := omega) [go_sem, -List.map_map, strs]))) (Sub.le z_su) ⟨by omega, ⟨_, by omega, rfl⟩, rfl⟩ (by omega)
        · have hy0' : 0 ≤ y.to := by omega
          have hyn : ¬ y.to < n := by have := b5 hto; omega
          ((repeat refine WpM.seq ?_); have z_ex := (And.intro @b1 (And.intro @b2 (And.intro @b3 (And.intro @hto (And.intro @hy0' (And.intro @hyn True.intro)))))); refine WpM.regPE [] [(5, _), (7, _), (8, _), (11, _), (147, _)] (by (refine s_o [(12, _)] rfl rfl rfl z_su rfl q_fieldAddr z_fp z_ss ?_; refine s_o [(99, _)] rfl rfl rfl z_su rfl q_load z_fp z_ss ?_; refine s_o [(13, _)] rfl rfl rfl z_su rfl q_fieldAddr z_fp z_ss ?_; refine s_o [(101, _)] rfl rfl rfl z_su rfl q_load z_fp z_ss ?_; refine s_o [(100, _), (102, _)] rfl rfl rfl z_su rfl q_full z_fp z_ss ?_; refine s_o [(103, _)] rfl rfl rfl z_su rfl q_move z_fp z_ss ?_; refine s_wit ?_; intro z_g; (first | refine s_skip rfl z_g z_fp ?_ | (refine s_o [(12, _)] rfl z_g rfl z_su rfl q_fieldAddr z_fp z_ss ?_)); clear z_g; refine s_wit ?_; intro z_g; (first | refine s_skip rfl z_g z_fp ?_ | (refine s_o [(105, _)] rfl z_g rfl z_su rfl q_load z_fp z_ss ?_)); clear z_g; refine s_wit ?_; intro z_g; (first | refine s_skip rfl z_g z_fp ?_ | (refine s_o [(13, _)] rfl z_g rfl z_su rfl q_fieldAddr z_fp z_ss ?_)); clear z_g; refine s_wit ?_; intro z_g; (first | refine s_skip rfl z_g z_fp ?_ | (refine s_o [(107, _)] rfl z_g rfl z_su rfl q_load z_fp z_ss ?_)); clear z_g; refine s_wit ?_; intro z_g; (first | refine s_skip rfl z_g z_fp ?_ | (refine s_o [(106, _), (108, _)] rfl z_g rfl z_su rfl q_full z_fp z_ss ?_)); clear z_g; refine s_o [(104, _), (109, _)] rfl rfl rfl z_su rfl q_move z_fp z_ss ?_; refine s_o [(110, _)] rfl rfl rfl z_su rfl q_move z_fp z_ss ?_; refine s_wit ?_; intro z_g; (first | refine s_skip rfl z_g z_fp ?_ | (refine s_o [(12, _)] rfl z_g rfl z_su rfl q_fieldAddr z_fp z_ss ?_)); clear z_g; refine s_wit ?_; intro z_g; (first | refine s_skip rfl z_g z_fp ?_ | (refine s_o [(112, _)] rfl z_g rfl z_su rfl q_load z_fp z_ss ?_)); clear z_g; refine s_wit ?_; intro z_g; (first | refine s_skip rfl z_g z_fp ?_ | (refine s_o [(113, _)] rfl z_g rfl z_su rfl q_full z_fp z_ss ?_)); clear z_g; refine s_wit ?_; intro z_g; (first | refine s_skip rfl z_g z_fp ?_ | (refine s_o [(13, _)] rfl z_g rfl z_su rfl q_fieldAddr z_fp z_ss ?_)); clear z_g; refine s_wit ?_; intro z_g; (first | refine s_skip rfl z_g z_fp ?_ | (refine s_o [(115, _)] rfl z_g rfl z_su rfl q_load z_fp z_ss ?_)); clear z_g; refine s_wit ?_; intro z_g; (first | refine s_skip rfl z_g z_fp ?_ | (refine s_o [(116, _)] rfl z_g rfl z_su rfl q_full z_fp z_ss ?_)); clear z_g; refine s_wit ?_; intro z_g; (first | refine s_skip rfl z_g z_fp ?_ | (refine s_o [(114, _), (117, _)] rfl z_g rfl z_su rfl q_full z_fp z_ss ?_)); clear z_g; refine s_o [(111, _), (118, _)] rfl rfl rfl z_su rfl q_move z_fp z_ss ?_; refine s_o [(119, _)] rfl rfl rfl z_su rfl q_move z_fp z_ss ?_; refine s_wit ?_; intro z_g; (first | refine s_skip rfl z_g z_fp ?_ | (refine s_o [(12, _)] rfl z_g rfl z_su rfl q_fieldAddr z_fp z_ss ?_)); clear z_g; refine s_wit ?_; intro z_g; (first | refine s_skip rfl z_g z_fp ?_ | (refine s_o [(121, _)] rfl z_g rfl z_su rfl q_load z_fp z_ss ?_)); clear z_g; refine s_wit ?_; intro z_g; (first | refine s_skip rfl z_g z_fp ?_ | (refine s_o [(122, _)] rfl z_g rfl z_su rfl q_full z_fp z_ss ?_)); clear z_g; refine s_wit ?_; intro z_g; (first | refine s_skip rfl z_g z_fp ?_ | (refine s_o [(123, _)] rfl z_g rfl z_su rfl q_move z_fp z_ss ?_)); clear z_g; refine s_wit ?_; intro z_g; (first | refine s_skip rfl z_g z_fp ?_ | (refine s_o [(12, _)] rfl z_g rfl z_su rfl q_fieldAddr z_fp z_ss ?_)); clear z_g; refine s_wit ?_; intro z_g; (first | refine s_skip rfl z_g z_fp ?_ | (refine s_o [(125, _)] rfl z_g rfl z_su rfl q_load z_fp z_ss ?_)); clear z_g; refine s_wit ?_; intro z_g; (first | refine s_skip rfl z_g z_fp ?_ | (refine s_o [(13, _)] rfl z_g rfl z_su rfl q_fieldAddr z_fp z_ss ?_)); clear z_g; refine s_wit ?_; intro z_g; (first | refine s_skip rfl z_g z_fp ?_ | (refine s_o [(127, _)] rfl z_g rfl z_su rfl q_load z_fp z_ss ?_)); clear z_g; refine s_wit ?_; intro z_g; (first | refine s_skip rfl z_g z_fp ?_ | (refine s_o [(126, _), (128, _)] rfl z_g rfl z_su rfl q_full z_fp z_ss ?_)); clear z_g; refine s_wit ?_; intro z_g; (first | refine s_skip rfl z_g z_fp ?_ | (refine s_o [(124, _), (129, _)] rfl z_g rfl z_su rfl q_move z_fp z_ss ?_)); clear z_g; refine s_o [(120, _), (130, _)] rfl rfl rfl z_su rfl q_move z_fp z_ss ?_; refine s_o [(131, _)] rfl rfl rfl z_su rfl q_move z_fp z_ss ?_; refine s_wit ?_; intro z_g; (first | refine s_skip rfl z_g z_fp ?_ | (refine s_o [(12, _)] rfl z_g rfl z_su rfl q_fieldAddr z_fp z_ss ?_)); clear z_g; refine s_wit ?_; intro z_g; (first | refine s_skip rfl z_g z_fp ?_ | (refine s_o [(133, _)] rfl z_g rfl z_su rfl q_load z_fp z_ss ?_)); clear z_g; refine s_wit ?_; intro z_g; (first | refine s_skip rfl z_g z_fp ?_ | (refine s_o [(134, _)] rfl z_g rfl z_su rfl q_full z_fp z_ss ?_)); clear z_g; refine s_wit ?_; intro z_g; (first | refine s_skip rfl z_g z_fp ?_ | (refine s_o [(135, _)] rfl z_g rfl z_su rfl q_move z_fp z_ss ?_)); clear z_g; refine s_wit ?_; intro z_g; (first | refine s_skip rfl z_g z_fp ?_ | (refine s_o [(13, _)] rfl z_g rfl z_su rfl q_fieldAddr z_fp z_ss ?_)); clear z_g; refine s_wit ?_; intro z_g; (first | refine s_skip rfl z_g z_fp ?_ | (refine s_o [(137, _)] rfl z_g rfl z_su rfl q_load z_fp z_ss ?_)); clear z_g; refine s_wit ?_; intro z_g; (first | refine s_skip rfl z_g z_fp ?_ | (refine s_o [(138, _)] rfl z_g rfl z_su rfl q_full z_fp z_ss ?_)); clear z_g; refine s_wit ?_; intro z_g; (first | refine s_skip rfl z_g z_fp ?_ | (refine s_o [(136, _), (139, _)] rfl z_g rfl z_su rfl q_move z_fp z_ss ?_)); clear z_g; refine s_wit ?_; intro z_g; (first | refine s_skip rfl z_g z_fp ?_ | (refine s_o [(140, _)] rfl z_g rfl z_su rfl q_move z_fp z_ss ?_)); clear z_g; refine s_wit ?_; intro z_g; (first | refine s_skip rfl z_g z_fp ?_ | (refine s_o [(13, _)] rfl z_g rfl z_su rfl q_fieldAddr z_fp z_ss ?_)); clear z_g; refine s_wit ?_; intro z_g; (first | refine s_skip rfl z_g z_fp ?_ | (refine s_o [(142, _)] rfl z_g rfl z_su rfl q_load z_fp z_ss ?_)); clear z_g; refine s_wit ?_; intro z_g; (first | refine s_skip rfl z_g z_fp ?_ | (refine s_o [(7, _)] rfl z_g rfl z_su rfl q_move z_fp z_ss ?_)); clear z_g; refine s_wit ?_; intro z_g; (first | refine s_skip rfl z_g z_fp ?_ | (refine s_o [(143, _), (144, _)] rfl z_g rfl z_su rfl q_full z_fp z_ss ?_)); clear z_g; refine s_wit ?_; intro z_g; (first | refine s_skip rfl z_g z_fp ?_ | (refine s_o [(141, _), (145, _)] rfl z_g rfl z_su rfl q_move z_fp z_ss ?_)); clear z_g; refine s_o [(132, _), (146, _)] rfl rfl rfl z_su rfl q_move z_fp z_ss ?_; exact wpS_nil ⟨rfl, rfl⟩)) z_su ?_; clear z_ex)
          ((repeat refine WpM.seq ?_); refine WpM.condF (by (simp (maxSteps := 2000000) (disch := omega) [go_sem, -List.map_map])) ?_)
          refine WpM.skip ?_
          ((repeat refine WpM.seq ?_); have z_ex := (And.intro @wrap_id True.intro); refine WpM.regPE [] [(5, _), (7, _), (8, _), (11, _)] (by (refine s_o [(11, _)] rfl rfl rfl z_su rfl q_move z_fp z_ss ?_; refine s_o [(87, _)] rfl rfl rfl z_su rfl q_full z_fp z_ss ?_; refine s_o [(88, _)] rfl rfl rfl z_su rfl q_move z_fp z_ss ?_; exact wpS_nil ⟨rfl, rfl⟩)) z_su ?_; clear z_ex)
          exact round_end (x' := i + 1) (le_cut (n0 := n0) (l' := [(n0 + 6, some (.box [.d (strs b.keys), .d (.sl (ts.map encTxn))])), (n0 + 28, some (.box [.d (strs g.keys), .d (.sl (g.txns.map encTxn))]))]) hH (by (simp (maxSteps := 2000000) (disch := omega) [go_sem, -List.map_map]); omega) (Nat.le_refl _) (by (simp (maxSteps := 2000000) (disch := omega) [go_sem, -List.map_map, strs]))) (Sub.le z_su) ⟨by omega, ⟨_, by omega, rfl⟩, rfl⟩ (by omega)
      · have hxy := b4 hto
        have hto' : ¬ y.to = -1 := by rw [← hxy]; exact hto
        ((repeat refine WpM.seq ?_); have z_ex := (And.intro @b1 (And.intro @b2 (And.intro @b3 (And.intro @hto (And.intro @hxy (And.intro @hto' True.intro)))))); refine WpM.regPE [] [(5, _), (7, _), (8, _), (11, _), (147, _)] (by (refine s_o [(12, _)] rfl rfl rfl z_su rfl q_fieldAddr z_fp z_ss ?_; refine s_o [(99, _)] rfl rfl rfl z_su rfl q_load z_fp z_ss ?_; refine s_o [(13, _)] rfl rfl rfl z_su rfl q_fieldAddr z_fp z_ss ?_; refine s_o [(101, _)] rfl rfl rfl z_su rfl q_load z_fp z_ss ?_; refine s_o [(100, _), (102, _)] rfl rfl rfl z_su rfl q_full z_fp z_ss ?_; refine s_o [(103, _)] rfl rfl rfl z_su rfl q_move z_fp z_ss ?_; refine s_wit ?_; intro z_g; (first | refine s_skip rfl z_g z_fp ?_ | (refine s_o [(12, _)] rfl z_g rfl z_su rfl q_fieldAddr z_fp z_ss ?_)); clear z_g; refine s_wit ?_; intro z_g; (first | refine s_skip rfl z_g z_fp ?_ | (refine s_o [(105, _)] rfl z_g rfl z_su rfl q_load z_fp z_ss ?_)); clear z_g; refine s_wit ?_; intro z_g; (first | refine s_skip rfl z_g z_fp ?_ | (refine s_o [(13, _)] rfl z_g rfl z_su rfl q_fieldAddr z_fp z_ss ?_)); clear z_g; refine s_wit ?_; intro z_g; (first | refine s_skip rfl z_g z_fp ?_ | (refine s_o [(107, _)] rfl z_g rfl z_su rfl q_load z_fp z_ss ?_)); clear z_g; refine s_wit ?_; intro z_g; (first | refine s_skip rfl z_g z_fp ?_ | (refine s_o [(106, _), (108, _)] rfl z_g rfl z_su rfl q_full z_fp z_ss ?_)); clear z_g; refine s_o [(104, _), (109, _)] rfl rfl rfl z_su rfl q_move z_fp z_ss ?_; refine s_o [(110, _)] rfl rfl rfl z_su rfl q_move z_fp z_ss ?_; refine s_wit ?_; intro z_g; (first | refine s_skip rfl z_g z_fp ?_ | (refine s_o [(12, _)] rfl z_g rfl z_su rfl q_fieldAddr z_fp z_ss ?_)); clear z_g; refine s_wit ?_; intro z_g; (first | refine s_skip rfl z_g z_fp ?_ | (refine s_o [(112, _)] rfl z_g rfl z_su rfl q_load z_fp z_ss ?_)); clear z_g; refine s_wit ?_; intro z_g; (first | refine s_skip rfl z_g z_fp ?_ | (refine s_o [(113, _)] rfl z_g rfl z_su rfl q_full z_fp z_ss ?_)); clear z_g; refine s_wit ?_; intro z_g; (first | refine s_skip rfl z_g z_fp ?_ | (refine s_o [(13, _)] rfl z_g rfl z_su rfl q_fieldAddr z_fp z_ss ?_)); clear z_g; refine s_wit ?_; intro z_g; (first | refine s_skip rfl z_g z_fp ?_ | (refine s_o [(115, _)] rfl z_g rfl z_su rfl q_load z_fp z_ss ?_)); clear z_g; refine s_wit ?_; intro z_g; (first | refine s_skip rfl z_g z_fp ?_ | (refine s_o [(116, _)] rfl z_g rfl z_su rfl q_full z_fp z_ss ?_)); clear z_g; refine s_wit ?_; intro z_g; (first | refine s_skip rfl z_g z_fp ?_ | (refine s_o [(114, _), (117, _)] rfl z_g rfl z_su rfl q_full z_fp z_ss ?_)); clear z_g; refine s_o [(111, _), (118, _)] rfl rfl rfl z_su rfl q_move z_fp z_ss ?_; refine s_o [(119, _)] rfl rfl rfl z_su rfl q_move z_fp z_ss ?_; refine s_wit ?_; intro z_g; (first | refine s_skip rfl z_g z_fp ?_ | (refine s_o [(12, _)] rfl z_g rfl z_su rfl q_fieldAddr z_fp z_ss ?_)); clear z_g; refine s_wit ?_; intro z_g; (first | refine s_skip rfl z_g z_fp ?_ | (refine s_o [(121, _)] rfl z_g rfl z_su rfl q_load z_fp z_ss ?_)); clear z_g; refine s_wit ?_; intro z_g; (first | refine s_skip rfl z_g z_fp ?_ | (refine s_o [(122, _)] rfl z_g rfl z_su rfl q_full z_fp z_ss ?_)); clear z_g; refine s_wit ?_; intro z_g; (first | refine s_skip rfl z_g z_fp ?_ | (refine s_o [(123, _)] rfl z_g rfl z_su rfl q_move z_fp z_ss ?_)); clear z_g; refine s_wit ?_; intro z_g; (first | refine s_skip rfl z_g z_fp ?_ | (refine s_o [(12, _)] rfl z_g rfl z_su rfl q_fieldAddr z_fp z_ss ?_)); clear z_g; refine s_wit ?_; intro z_g; (first | refine s_skip rfl z_g z_fp ?_ | (refine s_o [(125, _)] rfl z_g rfl z_su rfl q_load z_fp z_ss ?_)); clear z_g; refine s_wit ?_; intro z_g; (first | refine s_skip rfl z_g z_fp ?_ | (refine s_o [(13, _)] rfl z_g rfl z_su rfl q_fieldAddr z_fp z_ss ?_)); clear z_g; refine s_wit ?_; intro z_g; (first | refine s_skip rfl z_g z_fp ?_ | (refine s_o [(127, _)] rfl z_g rfl z_su rfl q_load z_fp z_ss ?_)); clear z_g; refine s_wit ?_; intro z_g; (first | refine s_skip rfl z_g z_fp ?_ | (refine s_o [(126, _), (128, _)] rfl z_g rfl z_su rfl q_full z_fp z_ss ?_)); clear z_g; refine s_wit ?_; intro z_g; (first | refine s_skip rfl z_g z_fp ?_ | (refine s_o [(124, _), (129, _)] rfl z_g rfl z_su rfl q_move z_fp z_ss ?_)); clear z_g; refine s_o [(120, _), (130, _)] rfl rfl rfl z_su rfl q_move z_fp z_ss ?_; refine s_o [(131, _)] rfl rfl rfl z_su rfl q_move z_fp z_ss ?_; refine s_wit ?_; intro z_g; (first | refine s_skip rfl z_g z_fp ?_ | (refine s_o [(12, _)] rfl z_g rfl z_su rfl q_fieldAddr z_fp z_ss ?_)); clear z_g; refine s_wit ?_; intro z_g; (first | refine s_skip rfl z_g z_fp ?_ | (refine s_o [(133, _)] rfl z_g rfl z_su rfl q_load z_fp z_ss ?_)); clear z_g; refine s_wit ?_; intro z_g; (first | refine s_skip rfl z_g z_fp ?_ | (refine s_o [(134, _)] rfl z_g rfl z_su rfl q_full z_fp z_ss ?_)); clear z_g; refine s_wit ?_; intro z_g; (first | refine s_skip rfl z_g z_fp ?_ | (refine s_o [(135, _)] rfl z_g rfl z_su rfl q_move z_fp z_ss ?_)); clear z_g; refine s_wit ?_; intro z_g; (first | refine s_skip rfl z_g z_fp ?_ | (refine s_o [(13, _)] rfl z_g rfl z_su rfl q_fieldAddr z_fp z_ss ?_)); clear z_g; refine s_wit ?_; intro z_g; (first | refine s_skip rfl z_g z_fp ?_ | (refine s_o [(137, _)] rfl z_g rfl z_su rfl q_load z_fp z_ss ?_)); clear z_g; refine s_wit ?_; intro z_g; (first | refine s_skip rfl z_g z_fp ?_ | (refine s_o [(138, _)] rfl z_g rfl z_su rfl q_full z_fp z_ss ?_)); clear z_g; refine s_wit ?_; intro z_g; (first | refine s_skip rfl z_g z_fp ?_ | (refine s_o [(136, _), (139, _)] rfl z_g rfl z_su rfl q_move z_fp z_ss ?_)); clear z_g; refine s_wit ?_; intro z_g; (first | refine s_skip rfl z_g z_fp ?_ | (refine s_o [(140, _)] rfl z_g rfl z_su rfl q_move z_fp z_ss ?_)); clear z_g; refine s_wit ?_; intro z_g; (first | refine s_skip rfl z_g z_fp ?_ | (refine s_o [(13, _)] rfl z_g rfl z_su rfl q_fieldAddr z_fp z_ss ?_)); clear z_g; refine s_wit ?_; intro z_g; (first | refine s_skip rfl z_g z_fp ?_ | (refine s_o [(142, _)] rfl z_g rfl z_su rfl q_load z_fp z_ss ?_)); clear z_g; refine s_wit ?_; intro z_g; (first | refine s_skip rfl z_g z_fp ?_ | (refine s_o [(7, _)] rfl z_g rfl z_su rfl q_move z_fp z_ss ?_)); clear z_g; refine s_wit ?_; intro z_g; (first | refine s_skip rfl z_g z_fp ?_ | (refine s_o [(143, _), (144, _)] rfl z_g rfl z_su rfl q_full z_fp z_ss ?_)); clear z_g; refine s_wit ?_; intro z_g; (first | refine s_skip rfl z_g z_fp ?_ | (refine s_o [(141, _), (145, _)] rfl z_g rfl z_su rfl q_move z_fp z_ss ?_)); clear z_g; refine s_o [(132, _), (146, _)] rfl rfl rfl z_su rfl q_move z_fp z_ss ?_; exact wpS_nil ⟨rfl, rfl⟩)) z_su ?_; clear z_ex)
        ((repeat refine WpM.seq ?_); refine WpM.condF (by (simp (maxSteps := 2000000) (disch := omega) [go_sem, -List.map_map])) ?_)
        refine WpM.skip ?_
        ((repeat refine WpM.seq ?_); have z_ex := (And.intro @wrap_id True.intro); refine WpM.regPE [] [(5, _), (7, _), (8, _), (11, _)] (by (refine s_o [(11, _)] rfl rfl rfl z_su rfl q_move z_fp z_ss ?_; refine s_o [(87, _)] rfl rfl rfl z_su rfl q_full z_fp z_ss ?_; refine s_o [(88, _)] rfl rfl rfl z_su rfl q_move z_fp z_ss ?_; exact wpS_nil ⟨rfl, rfl⟩)) z_su ?_; clear z_ex)
        exact round_end (x' := i + 1) (le_cut (n0 := n0) (l' := [(n0 + 6, some (.box [.d (strs b.keys), .d (.sl (ts.map encTxn))])), (n0 + 28, some (.box [.d (strs g.keys), .d (.sl (g.txns.map encTxn))]))]) hH (by (simp (maxSteps := 2000000) (disch := omega) [go_sem, -List.map_map]); omega) (Nat.le_refl _) (by (simp (maxSteps := 2000000) (disch := omega) [go_sem, -List.map_map, strs]))) (Sub.le z_su) ⟨by omega, ⟨_, by omega, rfl⟩, rfl⟩ (by omega)
    · ((repeat refine WpM.seq ?_); refine WpM.condF (by (simp (maxSteps := 2000000) (disch := omega) [go_sem, -List.map_map, hit])) ?_)
      (refine WpM.exit ?_; (repeat (with_reducible (first | refine thenM_exit ?_ | refine blockM_eq ?_ | refine blockM_ne (by decide) ?_))))
      ((repeat refine WpM.seq ?_); have z_ex := True.intro; refine WpM.regPE [] [(4, _)] (by (refine s_o [] rfl rfl rfl z_su rfl q_move z_fp z_ss ?_; exact wpS_nil ⟨rfl, rfl⟩)) z_su ?_; clear z_ex)
      (refine WpM.ret ?_; refine ⟨.inr rfl, Upd.done ?_⟩; (simp (maxSteps := 2000000) (disch := omega) [go_sem, -List.map_map, resV, resVs, resV1,]))
end Go.Proofs.Ytjjmedgibcffhaa
