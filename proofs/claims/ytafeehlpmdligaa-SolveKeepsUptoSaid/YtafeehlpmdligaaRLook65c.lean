/- proof.(*checker).plain$2, all cases. -/
import Derived.Test.YtafeehlpmdligaaRUnit2
namespace Go.Proofs.Ytafeehlpmdligaa
open Go.RowKit M
set_option linter.unusedSimpArgs false
set_option linter.unusedVariables false
theorem look65 {H0 : Nat → Option Blk} {bm nm bq : Nat} {K : Int → Bool} {q : List Int} {S : St} (h : PlS H0 bm nm bq K q S) (i m : Nat) (c : List Int) (xs : List V) (hx : xs[i]? = some (.d (ints c))) (hm : xs.length = m) (him : i < m) (hlit : ∀ l ∈ c, l ≠ 0 ∧ -4096 ≤ l ∧ l ≤ 4096) (hlen : c.length ≤ 140737488351232) (b1 b3 ck nc : Nat) (v1 v2 : V)
    (k1 : H0 b1 = some (.box [.ptr ck 0])) (k2 : H0 ck = some (.box [.ms nc 1 0 m, v1, v2])) (k3 : H0 nc = some (.row 1 xs)) (k6 : H0 b3 = some (.box [.fn 64 [.ptr bm 0, .ptr bq 0]])) (hn : q.length ≤ 100000) :
    CallM Try.prog 65 [.d (.int .i64 i), .ptr b1 0, .ptr bm 0, .ptr b3 0] S fun r S' => match lookStep K q c with
      | none => r = .d (.bool false) ∧ ∀ m k, H0 m = some k → S'.get m = some k
      | some (K', q') => r = .d (.bool true) ∧ PlS H0 bm nm bq K' q' S' := by
  have hl' : ∀ l ∈ c, -4096 ≤ l ∧ l ≤ 4096 := fun l hl => (hlit l hl).2
  have h0 : ∀ l ∈ c, l ≠ 0 := fun l hl => (hlit l hl).1
  unfold lookStep
  cases hs : scan K 0 c with
  | none =>
    refine (look65_two i m c xs hx hm him hl' hlen K hs b1 bm b3 ck nc nm v1 v2 S (h.keep _ _ k1) (h.keep _ _ k2) (h.keep _ _ k3) (h.keep _ _ h.hbm) h.map).mono ?_
    rintro r S' ⟨rfl, rfl⟩
    exact ⟨rfl, h⟩
  | some u =>
    by_cases hu : u = 0
    · subst hu
      refine (look65_none i m c xs hx hm him hl' hlen K hs b1 bm b3 ck nc nm v1 v2 S (h.keep _ _ k1) (h.keep _ _ k2) (h.keep _ _ k3) (h.keep _ _ h.hbm) h.map).mono ?_
      rintro r S' ⟨rfl, rfl⟩
      exact ⟨rfl, h.keep⟩
    · have hmem := ((scan_some K u hu c h0).1 hs).1
      simp only [if_neg hu]
      refine look65_one i m c xs hx hm him hl' hlen K u hu (hl' u hmem) hs b1 bm b3 ck nc nm v1 v2 S (h.keep _ _ k1) (h.keep _ _ k2) (h.keep _ _ k3) (h.keep _ _ h.hbm) h.map bq (h.keep _ _ k6) fun S' e => ?_
      refine (take64 (h.same e) u (hl' u hmem).1 (hl' u hmem).2 hn).mono ?_
      intro r S'' hr
      cases ht : takeStep K q u with
      | none =>
        rw [ht] at hr
        exact ⟨false, hr.1, fun S3 e3 => ⟨hr.1, by rw [e3]; exact hr.2.keep⟩⟩
      | some p =>
        obtain ⟨K', q'⟩ := p
        rw [ht] at hr
        exact ⟨true, hr.1, fun S3 e3 => ⟨hr.1, hr.2.same e3⟩⟩
end Go.Proofs.Ytafeehlpmdligaa
