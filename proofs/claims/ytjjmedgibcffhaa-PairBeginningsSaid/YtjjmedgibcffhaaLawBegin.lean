/- assizelaw04.PairBeginnings, walked. -/
import Derived.Test.YtjjmedgibcffhaaPairsR
namespace Go.Proofs.Ytjjmedgibcffhaa
open Go.RowKit Go.MapKept
set_option linter.unusedSimpArgs false
set_option linter.unusedVariables false

set_option maxHeartbeats 200000 in
set_option maxRecDepth 100000 in
theorem begin_calls (xs : List EventD) (k : Int) (F : Nat → Prop) (w : World) (A : Option Addr) (c : Nat) (hx : Ty.event.Sl F w A xs) (hc : xs.length ≤ c) (hF : ∀ b, F b → b < w.heap.size) (hk : -9223372036854775808 ≤ k ∧ k ≤ 9223372036854775807) :
    Calls Try.prog 5 #[.slice A xs.length c, .int .i64 k] w fun e w' => e = .returned (.bool true) ∧ Below w.heap.size w w' := by
  have HX := hide hx
  clear hx
  have HF := hide hF
  clear hF
  have hlen := HX.out.len_le (by decide)
  obtain ⟨n, hn, hle⟩ : ∃ n : Nat, wrap64 ((IntKind.u64.wrap k).tmod (↑xs.length + 1)) = (n : Int) ∧ n ≤ xs.length := by
    have h1 : IntKind.u64.wrap k = k % 18446744073709551616 := by simp [IntKind.wrap, IntKind.bits, IntKind.signed]
    have h2 : 0 ≤ k % 18446744073709551616 := by omega
    rw [h1, Int.tmod_eq_emod_of_nonneg h2]
    have h3 := Int.emod_nonneg (k % 18446744073709551616) (show (xs.length : Int) + 1 ≠ 0 by omega)
    have h4 := Int.emod_lt_of_pos (k % 18446744073709551616) (show (0 : Int) < (xs.length : Int) + 1 by omega)
    refine ⟨((k % 18446744073709551616) % ((xs.length : Int) + 1)).toNat, ?_, by omega⟩
    rw [IntWalk.wrap64_in _ ⟨by omega, by omega⟩]
    omega
  have hn0 : (0 : Int) ≤ (n : Int) := Int.natCast_nonneg _
  have hnc : (n : Int) ≤ (c : Int) := by omega
  have hnc' : n ≤ c := by omega
  have hln : (xs.take n).length = n := by simp; omega
  have HLN := hide hln
  clear hln
  have hXn := hide (HX.out.take n)
  go_enter Try.func5, Try.ntmps5
  go_wp2_with fail
  go_at_call 16
  refine (alive4_calls _).mono ?_
  rintro e w1 ⟨rfl, hb1⟩
  have hz1 := hb1.size
  go_wp2_with fail
  go_at_call 19
  refine (pairs_res xs F _ _ _ (HX.out.mono (SameOn.of_below (show Below _ _ _ by repeat (first | assumption | (with_reducible exact Below.refl _ _) | (with_reducible apply below_drewN) | (with_reducible apply Below.drew) | (with_reducible refine Below.alloc2_ ?_ (by first | assumption | exact Nat.le_refl _ | omega | (simp; done) | (simp; omega)) _) | (with_reducible refine Below.setCell ?_ (by first | assumption | exact Nat.le_refl _ | omega | (simp; done) | (simp; omega)) _) | (with_reducible refine Below.then2_ ?_ (by assumption) (by first | assumption | exact Nat.le_refl _ | omega | (simp; done) | (simp; omega))) | exact Below.drew (by assumption) | exact Below.drew (Below.refl _ _))) HF.out)) (fun b hb => by have := HF.out b hb; omega)).mono ?_
  rintro e w2 ⟨A2, c2, rfl, hs2, hb2⟩
  have hz2 := hb2.size
  go_wp2_with fail
  go_at_call 19
  refine (pairs_res_n (xs.take n) n HLN.out F _ _ _ (hXn.out.mono (SameOn.of_below (show Below _ _ _ by repeat (first | assumption | (with_reducible exact Below.refl _ _) | (with_reducible apply below_drewN) | (with_reducible apply Below.drew) | (with_reducible refine Below.alloc2_ ?_ (by first | assumption | exact Nat.le_refl _ | omega | (simp; done) | (simp; omega)) _) | (with_reducible refine Below.setCell ?_ (by first | assumption | exact Nat.le_refl _ | omega | (simp; done) | (simp; omega)) _) | (with_reducible refine Below.then2_ ?_ (by assumption) (by first | assumption | exact Nat.le_refl _ | omega | (simp; done) | (simp; omega))) | exact Below.drew (by assumption) | exact Below.drew (Below.refl _ _))) HF.out)) (fun b hb => by have := HF.out b hb; simp; omega)).mono ?_
  rintro e w3 ⟨A3, c3, rfl, hs3, hb3⟩
  obtain ⟨hc3, hf3⟩ := bcell hb3
  have hz3 : w2.heap.size < w3.heap.size := by have := hb3.size; simp at this; omega
  rcases flOf_cases xs with ⟨h1, ps, h2⟩ | ⟨h1, h2⟩ | ⟨j, h1, h2, h3, h4⟩
  · obtain ⟨ps', h5⟩ := take_ok h2 n hle
    have e1 : (flOf (pairsF xs)).1 = 0 := by rw [h1]
    have e2 : (flOf (pairsF (xs.take n))).1 = 0 := by rw [h5]; rfl
    clear h1 h2 h5
    go_wp2
    go_ret
    exact ⟨by first | rfl | (simp; done), (show Below _ _ _ by repeat (first | assumption | (with_reducible exact Below.refl _ _) | (with_reducible apply below_drewN) | (with_reducible apply Below.drew) | (with_reducible refine Below.alloc2_ ?_ (by first | assumption | exact Nat.le_refl _ | omega | (simp; done) | (simp; omega)) _) | (with_reducible refine Below.setCell ?_ (by first | assumption | exact Nat.le_refl _ | omega | (simp; done) | (simp; omega)) _) | (with_reducible refine Below.then2_ ?_ (by assumption) (by first | assumption | exact Nat.le_refl _ | omega | (simp; done) | (simp; omega))) | exact Below.drew (by assumption) | exact Below.drew (Below.refl _ _)))⟩
  · have e1 : (flOf (pairsF xs)).1 = 1 := by rw [h1]
    clear h1 h2
    go_wp2
    go_ret
    exact ⟨by first | rfl | (simp; done), (show Below _ _ _ by repeat (first | assumption | (with_reducible exact Below.refl _ _) | (with_reducible apply below_drewN) | (with_reducible apply Below.drew) | (with_reducible refine Below.alloc2_ ?_ (by first | assumption | exact Nat.le_refl _ | omega | (simp; done) | (simp; omega)) _) | (with_reducible refine Below.setCell ?_ (by first | assumption | exact Nat.le_refl _ | omega | (simp; done) | (simp; omega)) _) | (with_reducible refine Below.then2_ ?_ (by assumption) (by first | assumption | exact Nat.le_refl _ | omega | (simp; done) | (simp; omega))) | exact Below.drew (by assumption) | exact Below.drew (Below.refl _ _)))⟩
  · have e1 : (flOf (pairsF xs)).1 = 40 := by rw [h1]
    have e2 : (flOf (pairsF xs)).2 = (j : Int) := by rw [h1]
    obtain ⟨h5, h6⟩ := take_bad h3 h4 n hle
    clear h1 h2 h4
    by_cases hjn : j < n
    · have h7 := h5 hjn
      have e3 : (flOf (pairsF (xs.take n))).1 = 40 := by rw [h7]; rfl
      have e4 : (psOf (pairsF (xs.take n))).length = 0 := by rw [h7]; rfl
      have e5 : decide (j < n) = true := decide_eq_true hjn
      clear h5 h6 h7
      go_wp2
      go_ret
      exact ⟨by first | rfl | (simp; done), (show Below _ _ _ by repeat (first | assumption | (with_reducible exact Below.refl _ _) | (with_reducible apply below_drewN) | (with_reducible apply Below.drew) | (with_reducible refine Below.alloc2_ ?_ (by first | assumption | exact Nat.le_refl _ | omega | (simp; done) | (simp; omega)) _) | (with_reducible refine Below.setCell ?_ (by first | assumption | exact Nat.le_refl _ | omega | (simp; done) | (simp; omega)) _) | (with_reducible refine Below.then2_ ?_ (by assumption) (by first | assumption | exact Nat.le_refl _ | omega | (simp; done) | (simp; omega))) | exact Below.drew (by assumption) | exact Below.drew (Below.refl _ _)))⟩
    · obtain ⟨ps', h7⟩ := h6 (by omega)
      have e3 : (flOf (pairsF (xs.take n))).1 = 0 := by rw [h7]; rfl
      have e5 : decide (j < n) = false := decide_eq_false hjn
      clear h5 h6 h7
      go_wp2
      go_ret
      exact ⟨by first | rfl | (simp; done), (show Below _ _ _ by repeat (first | assumption | (with_reducible exact Below.refl _ _) | (with_reducible apply below_drewN) | (with_reducible apply Below.drew) | (with_reducible refine Below.alloc2_ ?_ (by first | assumption | exact Nat.le_refl _ | omega | (simp; done) | (simp; omega)) _) | (with_reducible refine Below.setCell ?_ (by first | assumption | exact Nat.le_refl _ | omega | (simp; done) | (simp; omega)) _) | (with_reducible refine Below.then2_ ?_ (by assumption) (by first | assumption | exact Nat.le_refl _ | omega | (simp; done) | (simp; omega))) | exact Below.drew (by assumption) | exact Below.drew (Below.refl _ _)))⟩
end Go.Proofs.Ytjjmedgibcffhaa
