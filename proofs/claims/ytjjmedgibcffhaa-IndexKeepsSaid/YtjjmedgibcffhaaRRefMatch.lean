/- assizeref04.Match, walked. -/
import Derived.Test.YtjjmedgibcffhaaRMatch
namespace Go.Proofs.Ytjjmedgibcffhaa
open Go.RowKit
set_option linter.unusedSimpArgs false
set_option linter.unusedVariables false

set_option maxHeartbeats 1000000 in
set_option maxRecDepth 100000 in
theorem refMatch_calls (x y : EventD) (F : Nat → Prop) (w : World) (cs ds : List Value) (hx : Ty.event.K F w cs x) (hy : Ty.event.K F w ds y) (hF : ∀ b, F b → b < w.heap.size) :
    Calls Try.prog 18 #[.agg cs.toArray, .agg ds.toArray] w fun e w' => e = .returned (.bool (matchB x y)) ∧ Below w.heap.size w w' := by
  obtain ⟨A, c, rfl, hx⟩ := hx
  obtain ⟨A', c', rfl, hy⟩ := hy
  have HX := hide hx
  clear hx
  have HY := hide hy
  clear hy
  have HF := hide hF
  clear hF
  have hlen := HX.out.len_le (by decide)
  have hlen' := HY.out.len_le (by decide)
  by_cases hp : x.proc = y.proc
  · have hp1 : (x.proc != y.proc) = false := by simp [hp]
    have HP := hide hp
    clear hp
    by_cases hl : x.calls.length = y.calls.length
    · have HL := hide hl
      have hl2 : ((x.calls.length : Int) != (y.calls.length : Int)) = false := by rw [hl]; simp
      have hl1 : x.calls.length ≤ y.calls.length := by omega
      clear hl
      go_enter Try.func18, Try.ntmps18
      go_wp2
      go_loopw [5] (fun i wr => ∃ j : Nat, j ≤ x.calls.length ∧ i = .int .i64 j ∧ Hid (∀ i (hi : i < x.calls.length) (hi' : i < y.calls.length), i < j → callEq x.calls[i] y.calls[i] = true) ∧ Hid (∃ n, wr = World.drewN ((w.alloc (.cells #[.int .i64 x.proc, .int .i64 x.kind, .slice A x.calls.length c] 24)).alloc (.cells #[.int .i64 y.proc, .int .i64 y.kind, .slice A' y.calls.length c'] 24)) n)) (fun i _ => x.calls.length - (intOf i).toNat)
      case atStart => exact ⟨0, by omega, rfl, fun i _ _ hi => absurd hi (by omega), 0, rfl⟩
      case round =>
        obtain ⟨j, hj, rfl, hr, hw⟩ := hrel
        obtain ⟨n, rfl⟩ := hw.out
        clear hw
        by_cases hlt : j < x.calls.length
        · have hlt' : j < y.calls.length := by omega
          obtain ⟨b, o, Av, cv, rfl, hFb, -, hc0, hc1, hc2, -, -⟩ := HX.out.call_at j hlt
          obtain ⟨b', o', Av', cv', rfl, hFb', -, hd0, hd1, hd2, -, -⟩ := HY.out.call_at j hlt'
          have hbb := HF.out b hFb
          have hbb' := HF.out b' hFb'
          have h0 : (0 : Int) ≤ (j : Int) := Int.natCast_nonneg _
          have h1 : (j : Int) < (x.calls.length : Int) := by omega
          have h2 : (j : Int) < (y.calls.length : Int) := by omega
          by_cases e1 : x.calls[j].kind = y.calls[j].kind
          · have e1' : (x.calls[j].kind != y.calls[j].kind) = false := by simp [e1]
            have E1 := hide e1
            clear e1
            by_cases e2 : x.calls[j].key.toList = y.calls[j].key.toList
            · by_cases e3 : x.calls[j].arg = y.calls[j].arg
              · have e3' : (x.calls[j].arg != y.calls[j].arg) = false := by simp [e3]
                have E3 := hide e3
                have E2 := hide e2
                clear e3
                go_wp2
                go_quiet (fail)
                go_wp2
                have hn : ∀ i (hi : i < x.calls.length) (hi' : i < y.calls.length), i < j + 1 → callEq x.calls[i] y.calls[i] = true := fun i h1 h1' h2 => (by
                  rcases Nat.lt_or_ge i j with hij | hij
                  · exact hr.out i h1 h1' hij
                  · obtain rfl : i = j := by omega
                    simp [callEq, E1.out, E2.out, E3.out])
                first | exact ⟨⟨j + 1, by omega, by go_num, hn, ⟨_, rfl⟩⟩, by simp [intOf]; omega⟩ | exact ⟨by ((repeat apply Exists.intro); refine ⟨?_, rfl⟩; exact ⟨j + 1, by omega, by go_num, hn, ⟨_, rfl⟩⟩), by simp [intOf]; omega⟩
              · have e3' : (x.calls[j].arg != y.calls[j].arg) = true := by simp [e3]
                have E3 := hide e3
                clear e3
                go_wp2
                go_quiet (fail)
                go_wp2
                go_ret
                exact ⟨ret_bool (by rw [matchB, callsEq_bad j hlt hlt' (by simp [callEq, E3.out])]; simp), (show Below _ _ _ by repeat (first | assumption | (with_reducible exact Below.refl _ _) | (with_reducible apply below_drewN) | (with_reducible apply Below.drew) | (with_reducible refine Below.alloc2_ ?_ (by first | assumption | exact Nat.le_refl _ | omega | (simp; done) | (simp; omega)) _) | (with_reducible refine Below.setCell ?_ (by first | assumption | exact Nat.le_refl _ | omega | (simp; done) | (simp; omega)) _) | (with_reducible refine Below.then2_ ?_ (by assumption) (by first | assumption | exact Nat.le_refl _ | omega | (simp; done) | (simp; omega))) | exact Below.drew (by assumption) | exact Below.drew (Below.refl _ _)))⟩
            · have E2 := hide e2
              go_wp2
              go_quiet (fail)
              go_wp2
              go_ret
              exact ⟨ret_bool (by rw [matchB, callsEq_bad j hlt hlt' (by simp [callEq, E2.out])]; simp), (show Below _ _ _ by repeat (first | assumption | (with_reducible exact Below.refl _ _) | (with_reducible apply below_drewN) | (with_reducible apply Below.drew) | (with_reducible refine Below.alloc2_ ?_ (by first | assumption | exact Nat.le_refl _ | omega | (simp; done) | (simp; omega)) _) | (with_reducible refine Below.setCell ?_ (by first | assumption | exact Nat.le_refl _ | omega | (simp; done) | (simp; omega)) _) | (with_reducible refine Below.then2_ ?_ (by assumption) (by first | assumption | exact Nat.le_refl _ | omega | (simp; done) | (simp; omega))) | exact Below.drew (by assumption) | exact Below.drew (Below.refl _ _)))⟩
          · have e1' : (x.calls[j].kind != y.calls[j].kind) = true := by simp [e1]
            have E1 := hide e1
            clear e1
            go_wp2
            go_quiet (fail)
            go_wp2
            go_ret
            exact ⟨ret_bool (by rw [matchB, callsEq_bad j hlt hlt' (by simp [callEq, E1.out])]; simp), (show Below _ _ _ by repeat (first | assumption | (with_reducible exact Below.refl _ _) | (with_reducible apply below_drewN) | (with_reducible apply Below.drew) | (with_reducible refine Below.alloc2_ ?_ (by first | assumption | exact Nat.le_refl _ | omega | (simp; done) | (simp; omega)) _) | (with_reducible refine Below.setCell ?_ (by first | assumption | exact Nat.le_refl _ | omega | (simp; done) | (simp; omega)) _) | (with_reducible refine Below.then2_ ?_ (by assumption) (by first | assumption | exact Nat.le_refl _ | omega | (simp; done) | (simp; omega))) | exact Below.drew (by assumption) | exact Below.drew (Below.refl _ _)))⟩
        · go_wp2
          go_ret
          exact ⟨ret_bool (by rw [matchB, callsEq_good HL.out fun i hi => hr.out i hi (by omega) (by omega)]; simp [HP.out]), (show Below _ _ _ by repeat (first | assumption | (with_reducible exact Below.refl _ _) | (with_reducible apply below_drewN) | (with_reducible apply Below.drew) | (with_reducible refine Below.alloc2_ ?_ (by first | assumption | exact Nat.le_refl _ | omega | (simp; done) | (simp; omega)) _) | (with_reducible refine Below.setCell ?_ (by first | assumption | exact Nat.le_refl _ | omega | (simp; done) | (simp; omega)) _) | (with_reducible refine Below.then2_ ?_ (by assumption) (by first | assumption | exact Nat.le_refl _ | omega | (simp; done) | (simp; omega))) | exact Below.drew (by assumption) | exact Below.drew (Below.refl _ _)))⟩
    · have HL := hide hl
      have hl2 : ((x.calls.length : Int) != (y.calls.length : Int)) = true := by simp; omega
      clear hl
      go_enter Try.func18, Try.ntmps18
      go_wp2
      go_ret
      exact ⟨ret_bool (by rw [matchB, callsEq_len HL.out]; simp), (show Below _ _ _ by repeat (first | assumption | (with_reducible exact Below.refl _ _) | (with_reducible apply below_drewN) | (with_reducible apply Below.drew) | (with_reducible refine Below.alloc2_ ?_ (by first | assumption | exact Nat.le_refl _ | omega | (simp; done) | (simp; omega)) _) | (with_reducible refine Below.setCell ?_ (by first | assumption | exact Nat.le_refl _ | omega | (simp; done) | (simp; omega)) _) | (with_reducible refine Below.then2_ ?_ (by assumption) (by first | assumption | exact Nat.le_refl _ | omega | (simp; done) | (simp; omega))) | exact Below.drew (by assumption) | exact Below.drew (Below.refl _ _)))⟩
  · have hp1 : (x.proc != y.proc) = true := by simp [hp]
    have HP := hide hp
    clear hp
    go_enter Try.func18, Try.ntmps18
    go_wp2
    go_ret
    exact ⟨ret_bool (by simp [matchB, HP.out]), (show Below _ _ _ by repeat (first | assumption | (with_reducible exact Below.refl _ _) | (with_reducible apply below_drewN) | (with_reducible apply Below.drew) | (with_reducible refine Below.alloc2_ ?_ (by first | assumption | exact Nat.le_refl _ | omega | (simp; done) | (simp; omega)) _) | (with_reducible refine Below.setCell ?_ (by first | assumption | exact Nat.le_refl _ | omega | (simp; done) | (simp; omega)) _) | (with_reducible refine Below.then2_ ?_ (by assumption) (by first | assumption | exact Nat.le_refl _ | omega | (simp; done) | (simp; omega))) | exact Below.drew (by assumption) | exact Below.drew (Below.refl _ _)))⟩
end Go.Proofs.Ytjjmedgibcffhaa
