/- ref03.sound, ref03.Check, walked: they tell what wire.Check tells. -/
import Derived.Test.YtjjmedgibcffhaaRefCheck
import Derived.Test.YtjjmedgibcffhaaK6
namespace Go.Proofs.Ytjjmedgibcffhaa
open Go.RowKit
set_option linter.unusedSimpArgs false
set_option linter.unusedVariables false

set_option maxHeartbeats 2000000 in
set_option maxRecDepth 100000 in
theorem refsound_calls (x : EventD) (F : Nat → Prop) (w : World) (cs : List Value) (hx : Ty.event.K F w cs x) (hF : ∀ b, F b → b < w.heap.size) :
    Calls Try.prog 63 #[.agg cs.toArray] w fun e w' => e = .returned (.bool (eventOk x)) ∧ Below w.heap.size w w' := by
  obtain ⟨A, c, rfl, hv⟩ := hx
  have HV := hide hv
  clear hv
  have HF := hide hF
  clear hF
  have hlen := HV.out.len_le (by decide)
  go_enter Try.func63, Try.ntmps63
  go_wp2
  any_goals (go_ret; exact ⟨ret_bool (by grind [eventOk]), (show Below _ _ _ by repeat (first | assumption | (with_reducible exact Below.refl _ _) | (with_reducible apply below_drewN) | (with_reducible apply Below.drew) | (with_reducible refine Below.alloc2_ ?_ (by first | assumption | exact Nat.le_refl _ | omega | (simp; done) | (simp; omega)) _) | (with_reducible refine Below.setCell ?_ (by first | assumption | exact Nat.le_refl _ | omega | (simp; done) | (simp; omega)) _) | (with_reducible refine Below.then2_ ?_ (by assumption) (by first | assumption | exact Nat.le_refl _ | omega | (simp; done) | (simp; omega))) | exact Below.drew (by assumption) | exact Below.drew (Below.refl _ _)))⟩)
  obtain ⟨W, hW⟩ : ∃ W, W = w.alloc (.cells #[.int .i64 x.proc, .int .i64 x.kind, .slice A x.calls.length c] 24) := ⟨_, rfl⟩
  rw [← hW]
  have hbW : Below w.heap.size w W := by rw [hW]; exact (show Below _ _ _ by repeat (first | assumption | (with_reducible exact Below.refl _ _) | (with_reducible apply below_drewN) | (with_reducible apply Below.drew) | (with_reducible refine Below.alloc2_ ?_ (by first | assumption | exact Nat.le_refl _ | omega | (simp; done) | (simp; omega)) _) | (with_reducible refine Below.setCell ?_ (by first | assumption | exact Nat.le_refl _ | omega | (simp; done) | (simp; omega)) _) | (with_reducible refine Below.then2_ ?_ (by assumption) (by first | assumption | exact Nat.le_refl _ | omega | (simp; done) | (simp; omega))) | exact Below.drew (by assumption) | exact Below.drew (Below.refl _ _)))
  have hzW : w.heap.size < W.heap.size := by rw [hW]; simp
  have hW1 : W.cell? ⟨w.heap.size, 1, none⟩ = some (.int .i64 x.kind) := by rw [hW]; simp [go_sem]
  have hW2 : W.cell? ⟨w.heap.size, 2, none⟩ = some (.slice A x.calls.length c) := by rw [hW]; simp [go_sem]
  clear hW
  go_loopw [3] (fun i wr => ∃ j : Nat, j ≤ x.calls.length ∧ i = .int .i64 j ∧ Hid (∀ i (hi : i < x.calls.length), i < j → callOk x.calls[i] x.kind = true) ∧ Hid (Below W.heap.size W wr)) (fun i _ => x.calls.length - (intOf i).toNat)
  case atStart => exact ⟨0, by omega, rfl, fun i _ hi => absurd hi (by omega), Below.refl _ _⟩
  case round =>
    obtain ⟨j, hj, rfl, hr, hb⟩ := hrel
    have hb := hb.out
    have hsz := hb.size
    have hbw : Below w.heap.size w wr := hbW.trans (hb.mono (by omega))
    have hq := (bcell hb).1
    have hw1 := (hq _ 1 hzW).trans hW1
    have hw2 := (hq _ 2 hzW).trans hW2
    clear hq
    have hzr : w.heap.size < wr.heap.size := by omega
    have H1 := hide hW1
    have H2 := hide hW2
    clear hW1 hW2
    by_cases hlt : j < x.calls.length
    · obtain ⟨b, o, A', c', rfl, hFb, hv, hc0, hc1, hc2, hc3, hc4⟩ := (HV.out.mono (w' := wr) (fun b hb' => hbw.block b (HF.out b hb'))).call_at j hlt
      have HV' := hide hv
      clear hv
      have hbb : b < wr.heap.size := by have := HF.out b hFb; omega
      have hj0 : (0 : Int) ≤ (j : Int) := Int.natCast_nonneg _
      have hj1 : (j : Int) < (x.calls.length : Int) := by omega
      have hS : ∀ W', Below wr.heap.size wr W' → W'.cell? ⟨w.heap.size, 1, none⟩ = some (.int .i64 x.kind) ∧ W'.cell? ⟨w.heap.size, 2, none⟩ = some (.slice (some ⟨b, o, none⟩) x.calls.length c) ∧
          W'.cell? ⟨b, o + j * 5, none⟩ = some (.int .i64 x.calls[j].kind) ∧ W'.cell? ⟨b, o + j * 5 + 1, none⟩ = some (.string x.calls[j].key) ∧ W'.cell? ⟨b, o + j * 5 + 2, none⟩ = some (.int .i64 x.calls[j].arg) ∧ W'.cell? ⟨b, o + j * 5 + 3, none⟩ = some (.bool x.calls[j].got) ∧ W'.cell? ⟨b, o + j * 5 + 4, none⟩ = some (.slice A' x.calls[j].vals.length c') ∧ Below wr.heap.size wr W' := by
        intro W' hB
        have hW := (bcell hB).1
        refine ⟨?_, ?_, ?_, ?_, ?_, ?_, ?_, hB⟩ <;> (rw [hW _ _ (by omega)]; assumption)
      have HS := hide hS
      have hS0 := hS wr (Below.refl _ _)
      clear hS
      have hC : ∀ W', Below wr.heap.size wr W' → Calls Try.prog 70 #[.agg #[.int .i64 x.calls[j].kind, .string x.calls[j].key, .int .i64 x.calls[j].arg, .bool x.calls[j].got, .slice A' x.calls[j].vals.length c'], .int .i64 x.kind] W' fun e w2 => e = .returned (.bool (callOk x.calls[j] x.kind)) ∧ Below W'.heap.size W' w2 :=
        fun W' hB => refcall_calls x.calls[j] F x.kind W' _ ⟨A', c', rfl, HV'.out.mono (fun b hb' => hB.block b (by have := HF.out b hb'; omega))⟩ (fun b hb' => by have := HF.out b hb'; have := hB.size; omega)
      have HC := hide hC
      clear hC
      go_wp2
      go_region_held3 (fun W => W.cell? ⟨w.heap.size, 1, none⟩ = some (.int .i64 x.kind) ∧ W.cell? ⟨w.heap.size, 2, none⟩ = some (.slice (some ⟨b, o, none⟩) x.calls.length c) ∧
          W.cell? ⟨b, o + j * 5, none⟩ = some (.int .i64 x.calls[j].kind) ∧ W.cell? ⟨b, o + j * 5 + 1, none⟩ = some (.string x.calls[j].key) ∧ W.cell? ⟨b, o + j * 5 + 2, none⟩ = some (.int .i64 x.calls[j].arg) ∧ W.cell? ⟨b, o + j * 5 + 3, none⟩ = some (.bool x.calls[j].got) ∧ W.cell? ⟨b, o + j * 5 + 4, none⟩ = some (.slice A' x.calls[j].vals.length c') ∧ Below wr.heap.size wr W)
        (first | exact HS.out _ (Below.drew (Below.refl _ _)) | (go_split_ands; exact HS.out _ (show Below _ _ _ by repeat (first | assumption | (with_reducible exact Below.refl _ _) | (with_reducible apply below_drewN) | (with_reducible apply Below.drew) | (with_reducible refine Below.alloc2_ ?_ (by first | assumption | exact Nat.le_refl _ | omega | (simp; done) | (simp; omega)) _) | (with_reducible refine Below.setCell ?_ (by first | assumption | exact Nat.le_refl _ | omega | (simp; done) | (simp; omega)) _) | (with_reducible refine Below.then2_ ?_ (by assumption) (by first | assumption | exact Nat.le_refl _ | omega | (simp; done) | (simp; omega))) | exact Below.drew (by assumption) | exact Below.drew (Below.refl _ _)))))
        ((go_at_call 70; go_split_ands; (with_reducible refine (HC.out _ (by assumption)).mono ?_); rintro e w3 ⟨rfl, hb3⟩))
      go_wp2
      · have hp : callOk x.calls[j] x.kind = false := by first | assumption | simpa using (by assumption : (!callOk x.calls[j] x.kind) = true)
        go_ret
        exact ⟨ret_bool (by
          have hall : (x.calls.all fun y => callOk y x.kind) = false := by
            rw [List.all_eq_false]
            exact ⟨_, List.getElem_mem hlt, by rw [hp]; simp⟩
          grind [eventOk]), by go_split_ands; exact hbw.trans (Below.mono (by assumption) (by omega))⟩
      · have hp : callOk x.calls[j] x.kind = true := by first | assumption | simpa using (by assumption : (!callOk x.calls[j] x.kind) = false)
        have hn : Hid (∀ i (hi : i < x.calls.length), i < j + 1 → callOk x.calls[i] x.kind = true) := by
          intro i h1 h2
          rcases Nat.lt_or_ge i j with hij | hij
          · exact hr.out i h1 hij
          · obtain rfl : i = j := by omega
            exact hp
        first | exact ⟨⟨j + 1, by omega, by go_num, hn, by go_split_ands; exact hb.trans (Below.mono (by assumption) (by omega))⟩, by simp [intOf]; omega⟩ | exact ⟨by ((repeat apply Exists.intro); refine ⟨?_, rfl⟩; exact ⟨j + 1, by omega, by go_num, hn, by go_split_ands; exact hb.trans (Below.mono (by assumption) (by omega))⟩), by simp [intOf]; omega⟩
    · obtain rfl : j = x.calls.length := by omega
      go_wp2
      go_ret
      exact ⟨ret_bool (by
        have hall : (x.calls.all fun y => callOk y x.kind) = true := by
          rw [List.all_eq_true]
          intro y hy
          obtain ⟨i, hi, rfl⟩ := List.getElem_of_mem hy
          exact hr.out i hi hi
        grind [eventOk]), (show Below _ _ _ by repeat (first | assumption | (with_reducible exact Below.refl _ _) | (with_reducible apply below_drewN) | (with_reducible apply Below.drew) | (with_reducible refine Below.alloc2_ ?_ (by first | assumption | exact Nat.le_refl _ | omega | (simp; done) | (simp; omega)) _) | (with_reducible refine Below.setCell ?_ (by first | assumption | exact Nat.le_refl _ | omega | (simp; done) | (simp; omega)) _) | (with_reducible refine Below.then2_ ?_ (by assumption) (by first | assumption | exact Nat.le_refl _ | omega | (simp; done) | (simp; omega))) | exact Below.drew (by assumption) | exact Below.drew (Below.refl _ _)))⟩

set_option maxHeartbeats 1000000 in
theorem refcheck_calls (xs : List EventD) (F : Nat → Prop) (w : World) (A : Option Addr) (c : Nat) (hx : Ty.event.Sl F w A xs) (hF : ∀ b, F b → b < w.heap.size) :
    Calls Try.prog 45 #[.slice A xs.length c] w fun e w' => e = .returned (.int .i64 (errnoOf (listOk xs))) ∧ Below w.heap.size w w' := by
  have HX := hide hx
  clear hx
  have HF := hide hF
  clear hF
  have hlen := HX.out.len_le (by decide)
  by_cases hl : 256 < xs.length
  · go_enter Try.func45, Try.ntmps45
    go_wp2
    go_ret
    exact ⟨ret_int (listOk_long hl).symm, Below.refl _ _⟩
  · go_enter Try.func45, Try.ntmps45
    go_wp2
    go_loopw [3] (fun i wr => ∃ j : Nat, j ≤ xs.length ∧ i = .int .i64 j ∧ Hid (∀ i (hi : i < xs.length), i < j → eventOk xs[i] = true) ∧ Hid (Below w.heap.size w wr)) (fun i _ => xs.length - (intOf i).toNat)
    case atStart => exact ⟨0, by omega, rfl, fun i _ hi => absurd hi (by omega), Below.refl _ _⟩
    case round =>
      obtain ⟨j, hj, rfl, hr, hb⟩ := hrel
      have hb := hb.out
      have hsz := hb.size
      by_cases hlt : j < xs.length
      · obtain ⟨b, o, A', c', rfl, hFb, hv, hc0, hc1, hc2⟩ := (HX.out.mono (w' := wr) (fun b hb' => hb.block b (HF.out b hb'))).event_at j hlt
        have HV := hide hv
        clear hv
        have hbb : b < wr.heap.size := by have := HF.out b hFb; omega
        go_wp2_with (go_at_call 63; refine (refsound_calls xs[j] F _ _ ⟨A', c', rfl, HV.out⟩ (fun b hb' => by have := HF.out b hb'; omega)).mono ?_; rintro e w3 ⟨rfl, hb3⟩)
        · have hp : eventOk xs[j] = false := by first | assumption | simpa using (by assumption : (!eventOk xs[j]) = true)
          go_ret
          exact ⟨ret_int (listOk_bad j hlt hp).symm, (show Below _ _ _ by repeat (first | assumption | (with_reducible exact Below.refl _ _) | (with_reducible apply below_drewN) | (with_reducible apply Below.drew) | (with_reducible refine Below.alloc2_ ?_ (by first | assumption | exact Nat.le_refl _ | omega | (simp; done) | (simp; omega)) _) | (with_reducible refine Below.setCell ?_ (by first | assumption | exact Nat.le_refl _ | omega | (simp; done) | (simp; omega)) _) | (with_reducible refine Below.then2_ ?_ (by assumption) (by first | assumption | exact Nat.le_refl _ | omega | (simp; done) | (simp; omega))) | exact Below.drew (by assumption) | exact Below.drew (Below.refl _ _)))⟩
        · have hp : eventOk xs[j] = true := by first | assumption | simpa using (by assumption : (!eventOk xs[j]) = false)
          have hn : Hid (∀ i (hi : i < xs.length), i < j + 1 → eventOk xs[i] = true) := by
            intro i h1 h2
            rcases Nat.lt_or_ge i j with hij | hij
            · exact hr.out i h1 hij
            · obtain rfl : i = j := by omega
              exact hp
          first | exact ⟨⟨j + 1, by omega, by go_num, hn, (show Below _ _ _ by repeat (first | assumption | (with_reducible exact Below.refl _ _) | (with_reducible apply below_drewN) | (with_reducible apply Below.drew) | (with_reducible refine Below.alloc2_ ?_ (by first | assumption | exact Nat.le_refl _ | omega | (simp; done) | (simp; omega)) _) | (with_reducible refine Below.setCell ?_ (by first | assumption | exact Nat.le_refl _ | omega | (simp; done) | (simp; omega)) _) | (with_reducible refine Below.then2_ ?_ (by assumption) (by first | assumption | exact Nat.le_refl _ | omega | (simp; done) | (simp; omega))) | exact Below.drew (by assumption) | exact Below.drew (Below.refl _ _)))⟩, by simp [intOf]; omega⟩ | exact ⟨by ((repeat apply Exists.intro); refine ⟨?_, rfl⟩; exact ⟨j + 1, by omega, by go_num, hn, (show Below _ _ _ by repeat (first | assumption | (with_reducible exact Below.refl _ _) | (with_reducible apply below_drewN) | (with_reducible apply Below.drew) | (with_reducible refine Below.alloc2_ ?_ (by first | assumption | exact Nat.le_refl _ | omega | (simp; done) | (simp; omega)) _) | (with_reducible refine Below.setCell ?_ (by first | assumption | exact Nat.le_refl _ | omega | (simp; done) | (simp; omega)) _) | (with_reducible refine Below.then2_ ?_ (by assumption) (by first | assumption | exact Nat.le_refl _ | omega | (simp; done) | (simp; omega))) | exact Below.drew (by assumption) | exact Below.drew (Below.refl _ _)))⟩), by simp [intOf]; omega⟩
      · go_wp2
        go_ret
        exact ⟨ret_int (listOk_good (by omega) fun i hi => hr.out i hi (by omega)).symm, hb⟩
end Go.Proofs.Ytjjmedgibcffhaa
