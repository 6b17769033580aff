/- A cheaper test that a drawn region may be walked in the order of the text. -/
import Derived.Test.YtjjmedgibcffhaaRKa
namespace Go.Proofs.Ytjjmedgibcffhaa
open Go.RowKit

def lexChk (md : Region.Mode) (ops : Array Oper) : Nat → List Oper → Bool
  | _, [] => true
  | k, o :: rest => (o.after.all fun e => !Region.binds md e || Nat.blt e.on k) && (rest.all fun oj => (oj.after.any fun e => Region.binds md e && e.on == k) || o.apart ops oj) && lexChk md ops (k + 1) rest

theorem lexFrom_of_chk (md : Region.Mode) (ops : Array Oper) : ∀ (l : List Oper) (k : Nat) (L : Array Bool), (∀ j, l[j]? = ops[k + j]?) → ops.size = k + l.length →
    (∀ i, L[i]? = if i < ops.size then some (decide (i < k)) else none) → lexChk md ops k l = true → Region.lexFrom md ops l.length k L = true
  | [], k, L, hl, hn, hL, _ => by
    simp only [List.length_nil, Nat.add_zero] at hn
    simp only [List.length_nil, Region.lexFrom, List.isEmpty_iff, Region.ready, List.filter_eq_nil_iff, List.mem_range]
    intro i hi
    have : L.getD i true = true := by rw [Array.getD_eq_getD_getElem?, hL i, if_pos hi]; simp; omega
    simp [this]
  | o :: rest, k, L, hl, hn, hL, hc => by
    have hk : k < ops.size := by rw [hn]; simp
    have h0 : ops[k]? = some o := by simpa using (hl 0).symm
    simp only [lexChk, Bool.and_eq_true] at hc
    obtain ⟨⟨h1, h2⟩, h3⟩ := hc
    simp only [List.length_cons, Region.lexFrom, Bool.and_eq_true]
    refine ⟨⟨?_, ?_⟩, ?_⟩
    · simp only [Region.ready, List.contains_iff_mem, List.mem_filter, List.mem_range, hk, true_and, h0, Bool.and_eq_true]
      refine ⟨?_, ?_⟩
      · rw [Array.getD_eq_getD_getElem?, hL k, if_pos hk]; simp
      · simp only [Option.map_some, Option.getD_some]
        rw [Array.all_eq_true_iff_forall_mem] at h1 ⊢
        intro e he
        have := h1 e he
        simp only [Bool.or_eq_true] at this ⊢
        rcases this with h | h
        · exact .inl h
        · right
          have h : e.on < k := by simpa [Nat.blt_eq] using h
          rw [Array.getD_eq_getD_getElem?, hL e.on, if_pos (by omega)]
          simpa using h
    · simp only [Region.free, h0, List.all_eq_true, List.mem_range]
      intro j hj
      rcases Nat.lt_trichotomy j k with hlt | rfl | hgt
      · have : L.getD j true = true := by rw [Array.getD_eq_getD_getElem?, hL j, if_pos hj]; simpa using hlt
        simp [this]
      · simp
      · have hjr : rest[j - k - 1]? = ops[j]? := by
          have := hl (j - k)
          rw [show k + (j - k) = j by omega] at this
          rw [← this, show j - k = (j - k - 1) + 1 by omega, List.getElem?_cons_succ]
          simp
        rw [Array.getElem?_eq_getElem hj] at hjr ⊢
        have hm := List.mem_of_getElem? hjr
        have := List.all_eq_true.1 h2 _ hm
        simp only [this, Bool.or_true]
    · refine lexFrom_of_chk md ops rest (k + 1) _ (fun j => ?_) (by rw [hn]; simp; omega) (fun i => ?_) h3
      · have := hl (j + 1)
        rw [List.getElem?_cons_succ] at this
        rw [this]
        congr 1
        omega
      · rw [Array.getElem?_setIfInBounds]
        have hLs : L.size = ops.size := by
          rcases Nat.lt_trichotomy L.size ops.size with h | h | h
          · have := hL L.size; rw [if_pos h] at this; simp at this
          · exact h
          · have := hL ops.size; rw [if_neg (by omega), Array.getElem?_eq_getElem h] at this; cases this
        split
        · rename_i e
          subst e
          rw [if_pos (by rw [hLs]; exact hk), if_pos hk]
          simp
        · rw [hL i]
          split
          · congr 1
            apply decide_eq_decide.2
            omega
          · rfl

theorem lexB_of_chk {md : Region.Mode} {l : List Oper} (hs : Region.noSelect l.toArray = true) (h : lexChk md l.toArray 0 l = true) : Region.lexB md l.toArray = true := by
  simp only [Region.lexB, Bool.and_eq_true]
  refine ⟨hs, ?_⟩
  have := lexFrom_of_chk md l.toArray l 0 (Array.replicate l.toArray.size false) (by simp) (by simp) (fun i => by
    rw [Array.getElem?_replicate]
    simp) h
  simpa using this
end Go.Proofs.Ytjjmedgibcffhaa
