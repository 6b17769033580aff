/- Whether two events match is told as the document says, either way round: the law PairMatches holds of all pairs of events. -/
import Derived.Test.YtjjmedgibcffhaaAlive4
import Derived.Test.YtjjmedgibcffhaaRefMatch
namespace Go.Proofs.Ytjjmedgibcffhaa
open Go.RowKit Go.MapKept
set_option linter.unusedSimpArgs false
set_option linter.unusedVariables false

theorem callEq_refl (c : CallD) : callEq c c = true := by simp [callEq]
theorem callEq_comm (c d : CallD) : callEq c d = callEq d c := by
  rw [Bool.eq_iff_iff]
  simp only [callEq, Bool.and_eq_true, decide_eq_true_eq]
  constructor <;> rintro ⟨⟨h1, h2⟩, h3⟩ <;> exact ⟨⟨h1.symm, h2.symm⟩, h3.symm⟩
theorem callsEq_refl (l : List CallD) : callsEq l l = true := callsEq_good rfl fun i h => callEq_refl _
theorem callsEq_iff (l m : List CallD) : callsEq l m = true ↔ ∃ hl : l.length = m.length, ∀ i (h : i < l.length), callEq l[i] (m[i]'(by omega)) = true := by
  constructor
  · intro h
    by_cases hl : l.length = m.length
    · refine ⟨hl, fun i hi => ?_⟩
      cases hb : callEq l[i] (m[i]'(by omega)) with
      | true => rfl
      | false =>
        rw [callsEq_bad i hi (by omega) hb] at h
        cases h
    · rw [callsEq_len hl] at h
      cases h
  · rintro ⟨hl, h⟩
    exact callsEq_good hl h
theorem callsEq_comm (l m : List CallD) : callsEq l m = callsEq m l := by
  rw [Bool.eq_iff_iff, callsEq_iff, callsEq_iff]
  constructor
  · rintro ⟨hl, h⟩
    exact ⟨hl.symm, fun i hi => by rw [callEq_comm]; exact h i (by omega)⟩
  · rintro ⟨hl, h⟩
    exact ⟨hl.symm, fun i hi => by rw [callEq_comm]; exact h i (by omega)⟩
theorem matchB_refl (a : EventD) : matchB a a = true := by simp [matchB, callsEq_refl]
theorem matchB_comm (a b : EventD) : matchB a b = matchB b a := by
  unfold matchB
  rw [callsEq_comm, Bool.eq_iff_iff]
  simp only [Bool.and_eq_true, decide_eq_true_eq]
  constructor <;> rintro ⟨h1, h2⟩ <;> exact ⟨h1.symm, h2⟩

set_option maxHeartbeats 1000000 in
set_option maxRecDepth 100000 in
theorem matches_calls (x y : EventD) (F : Nat → Prop) (w : World) (cs ds : List Value) (hx : Ty.event.K F w cs x) (hy : Ty.event.K F w ds y) (hF : ∀ b, F b → b < w.heap.size) :
    Calls Try.prog 3 #[.agg cs.toArray, .agg ds.toArray] w fun e w' => e = .returned (.bool true) ∧ Below w.heap.size w w' := by
  obtain ⟨A, c, rfl, hx⟩ := hx
  obtain ⟨A', c', rfl, hy⟩ := hy
  have HX := hide hx
  clear hx
  have HY := hide hy
  clear hy
  have HF := hide hF
  clear hF
  go_enter Try.func3, Try.ntmps3
  go_wp2_with (go_at_call 16; refine (alive4_calls _).mono ?_; rintro e w1 ⟨rfl, hb1⟩)
  obtain ⟨W0, hW0⟩ : ∃ W0, W0 = w1 := ⟨_, rfl⟩
  have hz1 : w.heap.size + 2 ≤ w1.heap.size := by have := hb1.size; simpa using this
  have hbw : Below w.heap.size w w1 := (show Below _ _ _ by repeat (first | assumption | (with_reducible exact Below.refl _ _) | (with_reducible apply below_drewN) | (with_reducible apply Below.drew) | (with_reducible refine Below.alloc2_ ?_ (by first | assumption | exact Nat.le_refl _ | omega | (simp; done) | (simp; omega)) _) | (with_reducible refine Below.setCell ?_ (by first | assumption | exact Nat.le_refl _ | omega | (simp; done) | (simp; omega)) _) | (with_reducible refine Below.then2_ ?_ (by assumption) (by first | assumption | exact Nat.le_refl _ | omega | (simp; done) | (simp; omega))) | exact Below.drew (by assumption) | exact Below.drew (Below.refl _ _)))
  have hM : ∀ W (p q : EventD) (P Q : Option Addr) (d d' : Nat), Below w.heap.size w W → Ty.call.Sl F w P p.calls → Ty.call.Sl F w Q q.calls →
      (Calls Try.prog 17 #[.agg #[.int .i64 p.proc, .int .i64 p.kind, .slice P p.calls.length d], .agg #[.int .i64 q.proc, .int .i64 q.kind, .slice Q q.calls.length d']] W fun e w' => e = .returned (.bool (matchB p q)) ∧ Below W.heap.size W w') ∧
      (Calls Try.prog 18 #[.agg #[.int .i64 p.proc, .int .i64 p.kind, .slice P p.calls.length d], .agg #[.int .i64 q.proc, .int .i64 q.kind, .slice Q q.calls.length d']] W fun e w' => e = .returned (.bool (matchB p q)) ∧ Below W.heap.size W w') := by
    intro W p q P Q d d' hB hp hq
    have hs : SameOn F w W := SameOn.of_below hB HF.out
    have hF' : ∀ b, F b → b < W.heap.size := fun b hb => by have := HF.out b hb; have := hB.size; omega
    exact ⟨match_calls p q F W _ _ ⟨P, d, rfl, hp.mono hs⟩ ⟨Q, d', rfl, hq.mono hs⟩ hF', refMatch_calls p q F W _ _ ⟨P, d, rfl, hp.mono hs⟩ ⟨Q, d', rfl, hq.mono hs⟩ hF'⟩
  have hM1 := hide (fun W h => (hM W x y A A' c c' h HX.out HY.out).1)
  have hM4 := hide (fun W h => (hM W x y A A' c c' h HX.out HY.out).2)
  have hM2 := fun W h => (hM W y x A' A c' c h HY.out HX.out).1
  have hM3 := fun W h => (hM W x x A A c c h HX.out HX.out).1
  clear hM
  rw [matchB_comm y x] at hM2
  rw [matchB_refl] at hM3
  have HM2 := hide hM2
  have HM3 := hide hM3
  clear hM2 hM3
  have hS : ∀ W, Below w1.heap.size w1 W → W.cell? ⟨w.heap.size, 0, none⟩ = some (.int .i64 x.proc) ∧ W.cell? ⟨w.heap.size, 1, none⟩ = some (.int .i64 x.kind) ∧ W.cell? ⟨w.heap.size, 2, none⟩ = some (.slice A x.calls.length c) ∧
      W.cell? ⟨w.heap.size + 1, 0, none⟩ = some (.int .i64 y.proc) ∧ W.cell? ⟨w.heap.size + 1, 1, none⟩ = some (.int .i64 y.kind) ∧ W.cell? ⟨w.heap.size + 1, 2, none⟩ = some (.slice A' y.calls.length c') ∧ Below w.heap.size w W ∧ Below w1.heap.size w1 W := by
    intro W hB
    have hW := (bcell hB).1
    have hw := (bcell hb1).1
    refine ⟨?_, ?_, ?_, ?_, ?_, ?_, (show Below _ _ _ by repeat (first | assumption | (with_reducible exact Below.refl _ _) | (with_reducible apply below_drewN) | (with_reducible apply Below.drew) | (with_reducible refine Below.alloc2_ ?_ (by first | assumption | exact Nat.le_refl _ | omega | (simp; done) | (simp; omega)) _) | (with_reducible refine Below.setCell ?_ (by first | assumption | exact Nat.le_refl _ | omega | (simp; done) | (simp; omega)) _) | (with_reducible refine Below.then2_ ?_ (by assumption) (by first | assumption | exact Nat.le_refl _ | omega | (simp; done) | (simp; omega))) | exact Below.drew (by assumption) | exact Below.drew (Below.refl _ _))), hB⟩ <;> (rw [hW _ _ (by omega), hw _ _ (by first | assumption | exact Nat.le_refl _ | omega | (simp; done) | (simp; omega))]; simp [go_sem])
  have HS := hide hS
  have hS0 := hS w1 (Below.refl _ _)
  clear hS
  obtain ⟨a0, a1, a2, a3, a4, a5, -, -⟩ := hS0
  go_region_held3 (fun W => W.cell? ⟨w.heap.size, 0, none⟩ = some (.int .i64 x.proc) ∧ W.cell? ⟨w.heap.size, 1, none⟩ = some (.int .i64 x.kind) ∧ W.cell? ⟨w.heap.size, 2, none⟩ = some (.slice A x.calls.length c) ∧
      W.cell? ⟨w.heap.size + 1, 0, none⟩ = some (.int .i64 y.proc) ∧ W.cell? ⟨w.heap.size + 1, 1, none⟩ = some (.int .i64 y.kind) ∧ W.cell? ⟨w.heap.size + 1, 2, none⟩ = some (.slice A' y.calls.length c') ∧ Below w.heap.size w W ∧ Below w1.heap.size w1 W)
    (first | exact HS.out _ (Below.drew (Below.refl _ _)) | (go_split_ands; exact HS.out _ (show Below _ _ _ by repeat (first | assumption | (with_reducible exact Below.refl _ _) | (with_reducible apply below_drewN) | (with_reducible apply Below.drew) | (with_reducible refine Below.alloc2_ ?_ (by first | assumption | exact Nat.le_refl _ | omega | (simp; done) | (simp; omega)) _) | (with_reducible refine Below.setCell ?_ (by first | assumption | exact Nat.le_refl _ | omega | (simp; done) | (simp; omega)) _) | (with_reducible refine Below.then2_ ?_ (by assumption) (by first | assumption | exact Nat.le_refl _ | omega | (simp; done) | (simp; omega))) | exact Below.drew (by assumption) | exact Below.drew (Below.refl _ _)))))
    ((first
      | (go_at_call 18; go_split_ands; (with_reducible refine (hM4.out _ (by assumption)).mono ?_); rintro e w3 ⟨rfl, hb3⟩)
      | (go_at_call 17; go_split_ands; (with_reducible refine (hM1.out _ (by assumption)).mono ?_); rintro e w3 ⟨rfl, hb3⟩)
      | (go_at_call 17; go_split_ands; (with_reducible refine (HM2.out _ (by assumption)).mono ?_); rintro e w3 ⟨rfl, hb3⟩)
      | (go_at_call 17; go_split_ands; (with_reducible refine (HM3.out _ (by assumption)).mono ?_); rintro e w3 ⟨rfl, hb3⟩)))
  go_wp2
  go_ret
  go_split_ands
  exact ⟨by first | rfl | (simp; done), (show Below _ _ _ by repeat (first | assumption | (with_reducible exact Below.refl _ _) | (with_reducible apply below_drewN) | (with_reducible apply Below.drew) | (with_reducible refine Below.alloc2_ ?_ (by first | assumption | exact Nat.le_refl _ | omega | (simp; done) | (simp; omega)) _) | (with_reducible refine Below.setCell ?_ (by first | assumption | exact Nat.le_refl _ | omega | (simp; done) | (simp; omega)) _) | (with_reducible refine Below.then2_ ?_ (by assumption) (by first | assumption | exact Nat.le_refl _ | omega | (simp; done) | (simp; omega))) | exact Below.drew (by assumption) | exact Below.drew (Below.refl _ _)))⟩
end Go.Proofs.Ytjjmedgibcffhaa
