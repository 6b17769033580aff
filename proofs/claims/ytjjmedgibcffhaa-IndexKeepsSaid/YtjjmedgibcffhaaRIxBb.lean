/- What Build answers is not too long. -/
import Derived.Test.YtjjmedgibcffhaaRIx16
namespace Go.Proofs.Ytjjmedgibcffhaa
open Go.RowKit M
set_option linter.unusedSimpArgs false
set_option linter.unusedVariables false
theorem txnOf_b {l : List EventD} (hok : SlOk EventOk 40 l) {p : PairD} (h : PairOk l p) (b : Bk) : TxnB (txnOf l p b) := by
  refine ⟨?_, fun o ho => ⟨?_⟩⟩
  · have := h.calls16
    simp only [txnOf, List.length_map]
    omega
  · simp only [txnOf, List.mem_map] at ho
    obtain ⟨c, hc, rfl⟩ := ho
    exact (callsFor_ok hok h c hc).2.2.2.1
theorem buildSt_b {l : List EventD} (hok : SlOk EventOk 40 l) {ps : List PairD} (hp : pairsF l = .ok ps) : ∀ {i : Nat} {b : Bk} {ts : List TxnD}, i ≤ ps.length → buildSt l ps i = .ok (b, ts) → ∀ t ∈ ts, TxnB t
  | 0, b, ts, _, h => by
    simp only [buildSt, Except.ok.injEq, Prod.mk.injEq] at h
    obtain ⟨_, rfl⟩ := h
    simp
  | i + 1, b, ts, hi, h => by
    cases h0 : buildSt l ps i with
    | error e => rw [buildSt, h0] at h; cases h
    | ok s =>
      obtain ⟨b0, ts0⟩ := s
      have ih := buildSt_b hok hp (by omega) h0
      rw [buildSt_succ h0 (by omega)] at h
      have hpo := pair_ok hp (i := i) (by omega)
      unfold buildStep at h
      split at h
      · cases h
      · cases he : entersE b0 (ev l ps[i].from_).calls ps[i].from_ with
        | error e => rw [he] at h; cases h
        | ok b1 =>
          rw [he] at h
          simp only [Except.ok.injEq, Prod.mk.injEq] at h
          obtain ⟨rfl, rfl⟩ := h
          intro t ht
          rcases List.mem_append.1 ht with ht | ht
          · exact ih t ht
          · simp at ht
            subst ht
            exact txnOf_b hok hpo _
theorem buildF_b {l : List EventD} (hok : SlOk EventOk 40 l) : HistB (buildF l).1 := by
  unfold buildF
  cases hp : pairsF l with
  | error e => exact ⟨by simp, by simp, by simp⟩
  | ok ps =>
    simp only
    cases hb : buildSt l ps ps.length with
    | error e => exact ⟨by simp, by simp, by simp⟩
    | ok s =>
      obtain ⟨b, ts⟩ := s
      obtain ⟨hw, hl, h32⟩ := buildSt_wf hp (Nat.le_refl _) hb
      have := hw.keys
      exact ⟨by show b.keys.length * 16 ≤ _; omega, by show ts.length * 56 ≤ _; omega, buildSt_b hok hp (Nat.le_refl _) hb⟩
end Go.Proofs.Ytjjmedgibcffhaa
