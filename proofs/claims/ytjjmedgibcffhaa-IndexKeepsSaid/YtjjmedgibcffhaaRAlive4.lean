/- assizelaw04.alive, walked: true. -/
import Derived.Test.YtjjmedgibcffhaaRPairs
namespace Go.Proofs.Ytjjmedgibcffhaa
open Go.RowKit Go.MapKept
set_option linter.unusedSimpArgs false
set_option linter.unusedVariables false

def aliveL : List EventD := [⟨0, 0, []⟩, ⟨0, 1, []⟩, ⟨0, 0, []⟩]
theorem aliveL_pairs : pairsF aliveL = .ok [⟨0, 1, 1⟩, ⟨2, -1, 3⟩] := by
  have hok : listOk aliveL = true := by decide
  have h1 : pairsSt aliveL 1 = .ok ([⟨0, -1, 3⟩], upd (fun _ => none) 0 (some 0)) := by
    rw [pairsSt_succ (ps := []) (op := fun _ => none) rfl (by decide)]
    simp [pairStep, aliveL]
  have h2 : pairsSt aliveL 2 = .ok ([⟨0, 1, 1⟩], upd (upd (fun _ => none) 0 (some 0)) 0 none) := by
    rw [pairsSt_succ h1 (by decide)]
    simp [pairStep, aliveL, upd_same, matchB, callsEq]
  have h3 : pairsSt aliveL 3 = .ok ([⟨0, 1, 1⟩, ⟨2, -1, 3⟩], upd (upd (upd (fun _ => none) 0 (some 0)) 0 none) 0 (some 1)) := by
    rw [pairsSt_succ h2 (by decide)]
    simp [pairStep, aliveL, upd_same]
  rw [pairsF, if_pos hok]
  show (match pairsSt aliveL 3 with | .error j => _ | .ok s => _) = _
  rw [h3]

set_option maxHeartbeats 1000000 in
set_option maxRecDepth 100000 in
theorem alive4_calls (w : World) : Calls Try.prog 16 #[] w fun e w' => e = .returned (.bool true) ∧ Below w.heap.size w w' := by
  have hS := hide (show Ty.event.Sl (· = w.heap.size) (w.alloc (.cells #[.int .i64 0, .int .i64 0, .slice none 0 0, .int .i64 0, .int .i64 1, .slice none 0 0, .int .i64 0, .int .i64 0, .slice none 0 0] 24)) (some ⟨w.heap.size, 0, none⟩) aliveL from by
    refine ⟨by decide, .inr ⟨_, _, rfl, rfl, fun i x hi => ?_⟩⟩
    have key : ∀ (i : Nat) (x : EventD) (k : Int), i < 3 → x = ⟨0, k, []⟩ → (∀ j v, [Value.int .i64 0, .int .i64 k, .slice none 0 0][j]? = some v → (w.alloc (.cells #[.int .i64 0, .int .i64 0, .slice none 0 0, .int .i64 0, .int .i64 1, .slice none 0 0, .int .i64 0, .int .i64 0, .slice none 0 0] 24)).cell? ⟨w.heap.size, 0 + i * 3 + j, none⟩ = some v) →
        ∃ cs, Ty.event.K (· = w.heap.size) (w.alloc (.cells #[.int .i64 0, .int .i64 0, .slice none 0 0, .int .i64 0, .int .i64 1, .slice none 0 0, .int .i64 0, .int .i64 0, .slice none 0 0] 24)) cs x ∧ ∀ j v, cs[j]? = some v → (w.alloc (.cells #[.int .i64 0, .int .i64 0, .slice none 0 0, .int .i64 0, .int .i64 1, .slice none 0 0, .int .i64 0, .int .i64 0, .slice none 0 0] 24)).cell? ⟨w.heap.size, 0 + i * Ty.event.sz + j, none⟩ = some v := by
      intro i x k _ hx hc
      subst hx
      exact ⟨_, ⟨none, 0, rfl, Ty.Sl.nil _ _ _ _⟩, hc⟩
    have cell : ∀ (n : Nat) (v : Value), (#[Value.int .i64 0, .int .i64 0, .slice none 0 0, .int .i64 0, .int .i64 1, .slice none 0 0, .int .i64 0, .int .i64 0, .slice none 0 0] : Array Value)[n]? = some v → (w.alloc (.cells #[.int .i64 0, .int .i64 0, .slice none 0 0, .int .i64 0, .int .i64 1, .slice none 0 0, .int .i64 0, .int .i64 0, .slice none 0 0] 24)).cell? ⟨w.heap.size, n, none⟩ = some v := by
      exact fun n v hv => cell_new w _ _ n v hv
    match i, hi with
    | 0, hi => exact key 0 x 0 (by omega) (by simpa [aliveL] using hi.symm) fun j v hj => cell _ _ (by match j, hj with | 0, hj => simpa using hj | 1, hj => simpa using hj | 2, hj => simpa using hj | j + 3, hj => simp at hj)
    | 1, hi => exact key 1 x 1 (by omega) (by simpa [aliveL] using hi.symm) fun j v hj => cell _ _ (by match j, hj with | 0, hj => simpa using hj | 1, hj => simpa using hj | 2, hj => simpa using hj | j + 3, hj => simp at hj)
    | 2, hi => exact key 2 x 0 (by omega) (by simpa [aliveL] using hi.symm) fun j v hj => cell _ _ (by match j, hj with | 0, hj => simpa using hj | 1, hj => simpa using hj | 2, hj => simpa using hj | j + 3, hj => simp at hj)
    | i + 3, hi => simp [aliveL] at hi)
  have hP := hide (pairs_calls aliveL (· = w.heap.size) _ _ 3 hS.out (fun b hb => by rw [hb]; simp))
  go_enter Try.func16, Try.ntmps16
  go_wp2_with (go_at_call 19; go_loud (refine hP.out.mono ?_); rintro e w1 ⟨hb1, hr⟩; have hz1 : w.heap.size + 1 ≤ w1.heap.size := (by have := hb1.size; simpa using this); rw [aliveL_pairs] at hr; obtain ⟨v, rfl, hown⟩ := hr; obtain ⟨g, cap, rfl, -, hg, -, hcell, -⟩ := own_slice hown (by decide); have c0 := hcell 0 _ rfl; have c1 := hcell 1 _ rfl; have c2 := hcell 2 _ rfl; have c3 := hcell 3 _ rfl; have c4 := hcell 4 _ rfl; have c5 := hcell 5 _ rfl; clear hcell)
  go_ret
  exact ⟨by first | rfl | (simp; done), (show Below _ _ _ by repeat (first | assumption | (with_reducible exact Below.refl _ _) | (with_reducible apply below_drewN) | (with_reducible apply Below.drew) | (with_reducible refine Below.alloc2_ ?_ (by first | assumption | exact Nat.le_refl _ | omega | (simp; done) | (simp; omega)) _) | (with_reducible refine Below.setCell ?_ (by first | assumption | exact Nat.le_refl _ | omega | (simp; done) | (simp; omega)) _) | (with_reducible refine Below.then2_ ?_ (by assumption) (by first | assumption | exact Nat.le_refl _ | omega | (simp; done) | (simp; omega))) | exact Below.drew (by assumption) | exact Below.drew (Below.refl _ _)))⟩
end Go.Proofs.Ytjjmedgibcffhaa
