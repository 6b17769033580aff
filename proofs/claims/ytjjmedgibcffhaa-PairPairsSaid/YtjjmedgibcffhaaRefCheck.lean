/- ref03.call, sound, Check, walked: the same as wire's. -/
import Derived.Test.YtjjmedgibcffhaaWireB
namespace Go.Proofs.Ytjjmedgibcffhaa
open Go.RowKit
set_option linter.unusedSimpArgs false
set_option linter.unusedVariables false

theorem toList_loop_len (bs : ByteArray) : ∀ (n i : Nat) (r : List UInt8), bs.size - i = n → (ByteArray.toList.loop bs i r).length = r.length + n := by
  intro n
  induction n with
  | zero =>
    intro i r h
    unfold ByteArray.toList.loop
    rw [if_neg (by omega)]
    simp
  | succ n ih =>
    intro i r h
    unfold ByteArray.toList.loop
    rw [if_pos (by omega), ih (i + 1) _ (by omega)]
    simp
    omega
theorem toList_len (bs : ByteArray) : bs.toList.length = bs.size := by
  unfold ByteArray.toList
  rw [toList_loop_len bs bs.size 0 [] (by omega)]
  simp
theorem key_empty (bs : ByteArray) : bs.toList.isEmpty = decide (bs.size < 1) := by
  rw [Bool.eq_iff_iff, List.isEmpty_iff, ← List.length_eq_zero_iff, toList_len, decide_eq_true_eq]
  omega
/-- callOk, as the reference spells it. -/
theorem callOk_ref (k : Int) (key : ByteArray) (arg : Int) (got : Bool) (vals : List Int) (ev : Int) :
    callOk ⟨k, key, arg, got, vals⟩ ev = if k < 1 ∨ 8 < k ∨ key.size < 1 ∨ 32 < key.size then false
      else if k ≤ 4 then !got && decide (vals.length = 0) && (decide (k ≠ 4) || (decide (-1048576 ≤ arg) && decide (arg ≤ 1048576)))
      else if arg ≠ 0 ∨ got ≠ (ev == 1) ∨ (got = false ∧ 0 < vals.length) then false
      else if k = 5 then decide (vals.length ≤ 1)
      else if k = 8 then !got || decide (vals.length = 1)
      else if k = 7 then risesB vals && decide (vals.length ≤ 64)
      else decide (vals.length ≤ 64) := by
  unfold callOk
  simp only [key_empty, Bool.decide_and]
  have hr : vals.length = 0 → risesB vals = true := fun h => risesB_true fun i hi => by omega
  generalize risesB vals = R at hr ⊢
  generalize vals.length = n at hr ⊢
  generalize key.size = m
  generalize (ev == 1) = E
  by_cases h1 : k < 1
  · simp [h1]
  by_cases h2 : 8 < k
  · simp [h1, h2]
  by_cases h3 : k ≤ 4
  · cases got <;> grind
  have h6 : shapeF k = if k = 5 then (0, 1) else if k = 8 then (1, 1) else (0, 64) := rfl
  by_cases h5 : k = 5
  · subst h5; rw [h6]; cases got <;> cases E <;> grind
  by_cases h8 : k = 8
  · subst h8; rw [h6]; cases got <;> cases E <;> grind
  rw [h6, if_neg h5, if_neg h8]
  by_cases h7 : k = 7
  · subst h7; cases got <;> cases E <;> cases R <;> grind
  cases got <;> cases E <;> grind

set_option maxHeartbeats 4000000 in
set_option maxRecDepth 100000 in
theorem refcall_calls (x : CallD) (F : Nat → Prop) (ev : Int) (w : World) (cs : List Value) (hx : Ty.call.K F w cs x) (hF : ∀ b, F b → b < w.heap.size) :
    Calls Try.prog 70 #[.agg cs.toArray, .int .i64 ev] w fun e w' => e = .returned (.bool (callOk x ev)) ∧ Below w.heap.size w w' := by
  obtain ⟨k, key, arg, got, vals⟩ := x
  obtain ⟨A, c, rfl, hv⟩ := hx
  dsimp only at hv ⊢
  have HV := hide hv
  clear hv
  go_enter Try.func70, Try.ntmps70
  go_wp2
  any_goals (go_ret; exact ⟨ret_bool (by rw [callOk_ref]; grind), (Below.refl _ _).alloc (Nat.le_refl _) _⟩)
  all_goals (
    obtain rfl : k = 7 := by simpa using (by assumption : (k == 7) = true)
    obtain rfl : arg = 0 := by assumption
    rename got = (ev == 1) => hgot
    have HG := hide hgot
    clear hgot
    have hlen := HV.out.len_le (by decide)
    have hemp : Hid (got = false → vals.length = 0) := by
      intro hg
      have := HG.out
      rw [hg] at this
      first | omega | (exfalso; simp_all)
    go_loopw [5] (fun i wr => ∃ j : Nat, (j < vals.length ∨ j = 0) ∧ i = .int .i64 (j + 1) ∧ Hid (∀ i, i < j → vals.getD i 0 < vals.getD (i + 1) 0) ∧ Hid (∃ n g, wr = World.drewN (w.alloc (.cells #[.int .i64 7, .string key, .int .i64 0, .bool g, .slice A vals.length c] 67)) n)) (fun i _ => vals.length - (intOf i).toNat)
    case atStart => exact ⟨0, .inr rfl, rfl, fun i hi => absurd hi (by omega), 0, _, rfl⟩
    case round =>
      obtain ⟨j, hj, rfl, hr, hw⟩ := hrel
      obtain ⟨n, g, rfl⟩ := hw.out
      clear hw
      by_cases hlt : j + 1 < vals.length
      · first | (exfalso; omega; done) | (
          obtain ⟨b, o, rfl, hFb, hc0⟩ := HV.out.int_at j (by omega)
          obtain ⟨b', o', hA', -, hc1⟩ := HV.out.int_at (j + 1) hlt
          obtain ⟨rfl, rfl⟩ : b' = b ∧ o' = o := by simpa using hA'.symm
          have hbb := hF _ hFb
          clear hA'
          go_wp2
          go_quiet (fail)
          go_wp2
          · have hle : vals[j + 1] ≤ vals[j] := by assumption
            have hR := hide (risesB_false hlt hle)
            go_ret
            exact ⟨ret_bool (by rw [callOk_ref, hR.out]; simp), (show Below _ _ _ by repeat (first | assumption | (with_reducible exact Below.refl _ _) | (with_reducible apply below_drewN) | (with_reducible apply Below.drew) | (with_reducible refine Below.alloc2_ ?_ (by first | assumption | exact Nat.le_refl _ | omega | (simp; done) | (simp; omega)) _) | (with_reducible refine Below.setCell ?_ (by first | assumption | exact Nat.le_refl _ | omega | (simp; done) | (simp; omega)) _) | (with_reducible refine Below.then2_ ?_ (by assumption) (by first | assumption | exact Nat.le_refl _ | omega | (simp; done) | (simp; omega))) | exact Below.drew (by assumption) | exact Below.drew (Below.refl _ _)))⟩
          · have hle : vals[j] < vals[j + 1] := by assumption
            have hnx : Hid (∀ i, i < j + 1 → vals.getD i 0 < vals.getD (i + 1) 0) := by
              intro i hi
              rcases Nat.lt_or_ge i j with hij | hij
              · exact hr.out i hij
              · obtain rfl : i = j := by omega
                simpa [List.getD_eq_getElem?_getD, List.getElem?_eq_getElem hlt, List.getElem?_eq_getElem (show i < vals.length by omega)] using hle
            first | exact ⟨⟨j + 1, .inl hlt, by go_num, hnx, _, _, rfl⟩, by simp [intOf]; omega⟩ | exact ⟨by ((repeat apply Exists.intro); refine ⟨?_, rfl⟩; exact ⟨j + 1, .inl hlt, by go_num, hnx, _, _, rfl⟩), by simp [intOf]; omega⟩)
      · have hR : Hid (risesB vals = true) := risesB_true fun i hi => hr.out i (by omega)
        go_wp2
        go_ret
        exact ⟨ret_bool (by rw [callOk_ref, hR.out]; have h1 := HG.out; have h2 := hemp.out; grind), (show Below _ _ _ by repeat (first | assumption | (with_reducible exact Below.refl _ _) | (with_reducible apply below_drewN) | (with_reducible apply Below.drew) | (with_reducible refine Below.alloc2_ ?_ (by first | assumption | exact Nat.le_refl _ | omega | (simp; done) | (simp; omega)) _) | (with_reducible refine Below.setCell ?_ (by first | assumption | exact Nat.le_refl _ | omega | (simp; done) | (simp; omega)) _) | (with_reducible refine Below.then2_ ?_ (by assumption) (by first | assumption | exact Nat.le_refl _ | omega | (simp; done) | (simp; omega))) | exact Below.drew (by assumption) | exact Below.drew (Below.refl _ _)))⟩)
end Go.Proofs.Ytjjmedgibcffhaa
