/- How the reference's book lies in memory. -/
import Derived.Test.YtjjmedgibcffhaaRIx4
namespace Go.Proofs.Ytjjmedgibcffhaa
open Go.RowKit M
set_option linter.unusedSimpArgs false
set_option linter.unusedVariables false
def lastD (l : List Int) : Int := l.getLast?.getD (-1)
/-- The book at L holds b, by its names; O: the names it owns. -/
structure BookN (G : Nat → Option Blk) (L nk nt nw ni nl : Nat) (ws : List V) (r : Nat → Nat) (b : Bk) (O : Nat → Prop) : Prop where
  box : G L = some (.box [.ms nk 1 0 b.keys.length, .ms nt 1 0 b.types.length, .ms nw 1 0 b.wrote.length, .ms ni 1 0 b.incs.length, .ms nl 1 0 b.incs.length])
  keys : G nk = some (.row 1 (b.keys.map fun s => .d (.str s)))
  types : G nt = some (.row 1 (b.types.map fun t => .d (.int .i64 t)))
  wr : G nw = some (.row 1 ws)
  incs : G ni = some (.row 1 (b.incs.map fun l => .d (.int .i64 l.length)))
  last : G nl = some (.row 1 (b.incs.map fun l => .d (.int .i64 (lastD l))))
  wlen : ws.length = b.wrote.length
  w0 : ∀ k, k < ws.length → b.wrote.getD k [] = [] → ws[k]? = some (.d .nil)
  w1 : ∀ k, b.wrote.getD k [] ≠ [] → ws[k]? = some (.ms (r k) 1 0 (b.wrote.getD k []).length) ∧ G (r k) = some (.row 1 ((b.wrote.getD k []).map fun t => .d (.int .i64 t))) ∧ O (r k) ∧ r k ≠ nk ∧ r k ≠ nt ∧ r k ≠ nw ∧ r k ≠ ni ∧ r k ≠ nl
  rinj : ∀ s s', b.wrote.getD s [] ≠ [] → b.wrote.getD s' [] ≠ [] → r s = r s' → s = s'
  oL : O L
  ok : O nk
  ot : O nt
  ow : O nw
  oi : O ni
  ol : O nl
  ne : nk ≠ nt ∧ nk ≠ nw ∧ nk ≠ ni ∧ nk ≠ nl ∧ nt ≠ nw ∧ nt ≠ ni ∧ nt ≠ nl ∧ nw ≠ ni ∧ nw ≠ nl ∧ ni ≠ nl
def BookAt (G : Nat → Option Blk) (L : Nat) (b : Bk) (O : Nat → Prop) : Prop := ∃ nk nt nw ni nl ws r, BookN G L nk nt nw ni nl ws r b O
theorem BookAt.same {G G' : Nat → Option Blk} {L : Nat} {b : Bk} {O : Nat → Prop} (h : BookAt G L b O) (hs : ∀ m k, O m → G m = some k → G' m = some k) : BookAt G' L b O := by
  obtain ⟨nk, nt, nw, ni, nl, ws, r, h⟩ := h
  exact ⟨nk, nt, nw, ni, nl, ws, r, hs _ _ h.oL h.box, hs _ _ h.ok h.keys, hs _ _ h.ot h.types, hs _ _ h.ow h.wr, hs _ _ h.oi h.incs, hs _ _ h.ol h.last, h.wlen, h.w0,
    fun s hn => ⟨(h.w1 s hn).1, hs _ _ (h.w1 s hn).2.2.1 (h.w1 s hn).2.1, (h.w1 s hn).2.2⟩, h.rinj, h.oL, h.ok, h.ot, h.ow, h.oi, h.ol, h.ne⟩
section
variable {G G' : Nat → Option Blk} {L nk nt nw ni nl : Nat} {ws : List V} {r : Nat → Nat} {b : Bk} {O : Nat → Prop}
theorem BookN.box_ne (h : BookN G L nk nt nw ni nl ws r b O) : L ≠ nk ∧ L ≠ nt ∧ L ≠ nw ∧ L ≠ ni ∧ L ≠ nl ∧ ∀ s, b.wrote.getD s [] ≠ [] → r s ≠ L := by
  have k1 := h.box
  have k2 := h.keys
  have k3 := h.types
  have k4 := h.wr
  have k5 := h.incs
  have k6 := h.last
  refine ⟨?_, ?_, ?_, ?_, ?_, fun s hs => ?_⟩
  · rintro rfl; rw [k1] at k2; cases k2
  · rintro rfl; rw [k1] at k3; cases k3
  · rintro rfl; rw [k1] at k4; cases k4
  · rintro rfl; rw [k1] at k5; cases k5
  · rintro rfl; rw [k1] at k6; cases k6
  · obtain ⟨_, hr, _⟩ := h.w1 s hs
    intro e
    rw [e, k1] at hr
    cases hr
theorem BookN.push {n nk' nt' nw' ni' nl' : Nat} {c : CallD} (h : BookN G L nk nt nw ni nl ws r b O) (hw : b.Wf n) (h1 : ¬ O nk') (h2 : ¬ O nt') (h3 : ¬ O nw') (h4 : ¬ O ni') (h5 : ¬ O nl')
    (hne : nk' ≠ nt' ∧ nk' ≠ nw' ∧ nk' ≠ ni' ∧ nk' ≠ nl' ∧ nt' ≠ nw' ∧ nt' ≠ ni' ∧ nt' ≠ nl' ∧ nw' ≠ ni' ∧ nw' ≠ nl' ∧ ni' ≠ nl')
    (e1 : G' L = some (.box [.ms nk' 1 0 (b.keys.length + 1), .ms nt' 1 0 (b.types.length + 1), .ms nw' 1 0 (b.wrote.length + 1), .ms ni' 1 0 (b.incs.length + 1), .ms nl' 1 0 (b.incs.length + 1)]))
    (e2 : G' nk' = some (.row 1 ((b.keys.map fun s => .d (.str s)) ++ [.d (.str c.key)]))) (e3 : G' nt' = some (.row 1 ((b.types.map fun s => .d (.int .i64 s)) ++ [.d (.int .i64 (tyOf c.kind))])))
    (e4 : G' nw' = some (.row 1 (ws ++ [.d .nil]))) (e5 : G' ni' = some (.row 1 ((b.incs.map fun l => .d (.int .i64 l.length)) ++ [.d (.int .i64 0)]))) (e6 : G' nl' = some (.row 1 ((b.incs.map fun l => .d (.int .i64 (lastD l))) ++ [.d (.int .i64 (-1))])))
    (old : ∀ m k, m ≠ L → m ≠ nk → m ≠ nt → m ≠ nw → m ≠ ni → m ≠ nl → O m → G m = some k → G' m = some k) : BookAt G' L (b.push c) (fun m => O m ∨ m = nk' ∨ m = nt' ∨ m = nw' ∨ m = ni' ∨ m = nl') := by
  obtain ⟨q1, q2, q3, q4, q5, q6⟩ := h.box_ne
  have hwl := h.wlen
  refine ⟨nk', nt', nw', ni', nl', ws ++ [.d .nil], r, by rw [e1]; simp [Bk.push], by rw [e2]; simp [Bk.push], by rw [e3]; simp [Bk.push], e4, by rw [e5]; simp [Bk.push], by rw [e6]; simp [Bk.push, lastD], by simp [Bk.push, hwl], fun k hk he => ?_, fun k hk => ?_, fun s s' hs hs' => ?_, .inl h.oL, by simp, by simp, by simp, by simp, by simp, hne⟩
  · simp only [Bk.push, getD_push] at he
    rcases Nat.lt_or_ge k ws.length with hl | hl
    · rw [List.getElem?_append_left hl]; exact h.w0 k hl he
    · obtain rfl : k = ws.length := by simp at hk; omega
      simp
  · simp only [Bk.push, getD_push] at hk ⊢
    obtain ⟨a1, a2, a3, a4, a5, a6, a7, a8⟩ := h.w1 k hk
    have hl : k < ws.length := (List.getElem?_eq_some_iff.1 a1).1
    exact ⟨by rw [List.getElem?_append_left hl]; exact a1, old _ _ (q6 k hk) a4 a5 a6 a7 a8 a3 a2, .inl a3, fun e => h1 (e ▸ a3), fun e => h2 (e ▸ a3), fun e => h3 (e ▸ a3), fun e => h4 (e ▸ a3), fun e => h5 (e ▸ a3)⟩
  · simp only [Bk.push, getD_push] at hs hs'; exact h.rinj s s' hs hs'
theorem BookN.wrote {n k nr : Nat} {x : Int} (h : BookN G L nk nt nw ni nl ws r b O) (hw : b.Wf n) (hk : k < b.wrote.length) (hnr : ¬ O nr)
    (e1 : G' nw = some (.row 1 (ws.set k (.ms nr 1 0 ((b.wrote.getD k []).length + 1))))) (e2 : G' nr = some (.row 1 (((b.wrote.getD k []).map fun t => .d (.int .i64 t)) ++ [.d (.int .i64 x)])))
    (old : ∀ m q, m ≠ nw → (b.wrote.getD k [] ≠ [] → m ≠ r k) → O m → G m = some q → G' m = some q) :
    BookAt G' L { b with wrote := b.wrote.set k (b.wrote.getD k [] ++ [x]) } (fun m => O m ∨ m = nr) := by
  obtain ⟨q1, q2, q3, q4, q5, q6⟩ := h.box_ne
  obtain ⟨a1, a2, a3, a4, a5, a6, a7, a8, a9, a10⟩ := h.ne
  have hwl := h.wlen
  refine ⟨nk, nt, nw, ni, nl, _, fun s => if s = k then nr else r s, ?_, ?_, ?_, e1, ?_, ?_, by simp [hwl], fun j hj he => ?_, fun j hj => ?_, fun s s' hs hs' => ?_, .inl h.oL, .inl h.ok, .inl h.ot, .inl h.ow, .inl h.oi, .inl h.ol, h.ne⟩
  · rw [old _ _ q3 (fun hs e => q6 _ hs e.symm) h.oL h.box]; simp
  · exact old _ _ a2 (fun hs e => (h.w1 _ hs).2.2.2.1 e.symm) h.ok h.keys
  · exact old _ _ a5 (fun hs e => (h.w1 _ hs).2.2.2.2.1 e.symm) h.ot h.types
  · exact old _ _ (Ne.symm a8) (fun hs e => (h.w1 _ hs).2.2.2.2.2.2.1 e.symm) h.oi h.incs
  · exact old _ _ (Ne.symm a9) (fun hs e => (h.w1 _ hs).2.2.2.2.2.2.2 e.symm) h.ol h.last
  · simp only [getD_set, hk, and_true] at he
    by_cases e : j = k
    · rw [if_pos e] at he; simp at he
    · rw [if_neg e] at he
      rw [List.getElem?_set, if_neg (fun e' => e e'.symm)]
      exact h.w0 j (by simpa using hj) he
  · simp only [getD_set, hk, and_true] at hj ⊢
    by_cases e : j = k
    · simp only [if_pos e]
      refine ⟨by rw [e, List.getElem?_set]; simp [hwl, hk], by rw [e2]; simp, by simp, fun e => hnr (e ▸ h.ok), fun e => hnr (e ▸ h.ot), fun e => hnr (e ▸ h.ow), fun e => hnr (e ▸ h.oi), fun e => hnr (e ▸ h.ol)⟩
    · rw [if_neg e] at hj
      simp only [if_neg e]
      obtain ⟨b1, b2, b3, b4, b5, b6, b7, b8⟩ := h.w1 j hj
      exact ⟨by rw [List.getElem?_set, if_neg (fun e' => e e'.symm)]; exact b1, old _ _ b6 (fun hs e' => e (h.rinj _ _ hj hs e')) b3 b2, .inl b3, b4, b5, b6, b7, b8⟩
  · simp only [getD_set, hk, and_true] at hs hs'
    by_cases e : s = k
    · by_cases e' : s' = k
      · intro _; rw [e, e']
      · rw [if_neg e'] at hs'
        simp only [if_pos e, if_neg e']
        intro he
        exact absurd (h.w1 s' hs').2.2.1 (he ▸ hnr)
    · rw [if_neg e] at hs
      by_cases e' : s' = k
      · simp only [if_pos e', if_neg e]
        intro he
        exact absurd (h.w1 s hs).2.2.1 (he ▸ hnr)
      · rw [if_neg e'] at hs'
        simp only [if_neg e', if_neg e]
        exact h.rinj s s' hs hs'
theorem BookN.inc {n k : Nat} {x : Int} (h : BookN G L nk nt nw ni nl ws r b O) (hw : b.Wf n)
    (e1 : G' ni = some (.row 1 ((b.incs.map fun l => V.d (.int .i64 l.length)).set k (.d (.int .i64 ((b.incs.getD k []).length + 1))))))
    (e2 : G' nl = some (.row 1 ((b.incs.map fun l => V.d (.int .i64 (lastD l))).set k (.d (.int .i64 x)))))
    (old : ∀ m q, m ≠ ni → m ≠ nl → O m → G m = some q → G' m = some q) :
    BookAt G' L { b with incs := b.incs.set k (b.incs.getD k [] ++ [x]) } O := by
  obtain ⟨q1, q2, q3, q4, q5, q6⟩ := h.box_ne
  obtain ⟨a1, a2, a3, a4, a5, a6, a7, a8, a9, a10⟩ := h.ne
  refine ⟨nk, nt, nw, ni, nl, ws, r, ?_, ?_, ?_, ?_, ?_, ?_, h.wlen, h.w0, fun j hj => ?_, h.rinj, h.oL, h.ok, h.ot, h.ow, h.oi, h.ol, h.ne⟩
  · rw [old _ _ q4 q5 h.oL h.box]; simp
  · exact old _ _ a3 a4 h.ok h.keys
  · exact old _ _ a6 a7 h.ot h.types
  · exact old _ _ a8 a9 h.ow h.wr
  · rw [e1, List.map_set]; simp
  · rw [e2, List.map_set]; simp [lastD]
  · obtain ⟨b1, b2, b3, b4, b5, b6, b7, b8⟩ := h.w1 j hj
    exact ⟨b1, old _ _ b7 b8 b3 b2, b3, b4, b5, b6, b7, b8⟩
end
end Go.Proofs.Ytjjmedgibcffhaa
