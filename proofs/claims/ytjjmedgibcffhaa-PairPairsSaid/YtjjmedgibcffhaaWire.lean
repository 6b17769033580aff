import Derived.Test.YtjjmedgibcffhaaK1
namespace Go.Proofs.Ytjjmedgibcffhaa
open Go.RowKit
set_option linter.unusedSimpArgs false

def shapeF (k : Int) : Int × Int := if k = 5 then (0, 1) else if k = 8 then (1, 1) else (0, 64)

set_option maxHeartbeats 400000 in
theorem shape_calls (k : Int) (w : World) :
    Calls Try.prog 69 #[.int .i64 k] w fun e w' => e = .returned (.tuple #[.int .i64 (shapeF k).1, .int .i64 (shapeF k).2]) ∧ w = w' := by
  unfold shapeF
  by_cases h5 : k = 5
  · subst h5
    go_enter Try.func69, Try.ntmps69
    go_wp2
    go_ret2
    exact ⟨rfl, rfl⟩
  · by_cases h8 : k = 8
    · subst h8
      go_enter Try.func69, Try.ntmps69
      go_wp2
      go_ret2
      exact ⟨rfl, rfl⟩
    · go_enter Try.func69, Try.ntmps69
      go_wp2
      go_ret2
      exact ⟨by simp [h5, h8], rfl⟩

def risesB (l : List Int) : Bool := (List.range (l.length - 1)).all fun i => decide (l.getD i 0 < l.getD (i + 1) 0)
theorem risesB_false {l : List Int} {j : Nat} (h : j + 1 < l.length) (hle : l[j + 1] ≤ l[j]) : risesB l = false := by
  unfold risesB
  rw [List.all_eq_false]
  refine ⟨j, by simp; omega, ?_⟩
  simp [List.getD_eq_getElem?_getD, List.getElem?_eq_getElem h, List.getElem?_eq_getElem (show j < l.length by omega)]
  omega
theorem risesB_true {l : List Int} (h : ∀ i, i + 1 < l.length → l.getD i 0 < l.getD (i + 1) 0) : risesB l = true := by
  unfold risesB
  rw [List.all_eq_true]
  intro i hi
  simp at hi
  exact decide_eq_true (h i (by omega))
def callOk (c : CallD) (ev : Int) : Bool :=
  if c.kind < 1 then false else if 8 < c.kind then false else if c.key.toList.isEmpty = true then false else if 32 < (c.key.size : Int) then false
  else if c.kind ≤ 4 then !c.got && decide (c.vals.length = 0) && (decide (c.kind ≠ 4) || decide (-1048576 ≤ c.arg ∧ c.arg ≤ 1048576))
  else if c.arg ≠ 0 then false else if (!c.got == (ev == 1)) = true then false
  else if (!c.got) = true then decide (c.vals.length = 0)
  else if (c.vals.length : Int) < (shapeF c.kind).1 then false else if (shapeF c.kind).2 < (c.vals.length : Int) then false
  else if c.kind = 7 then risesB c.vals else true

set_option maxHeartbeats 1000000 in
set_option maxRecDepth 100000 in
theorem sound_calls (x : CallD) (F : Nat → Prop) (ev : Int) (w : World) (cs : List Value) (hx : Ty.call.K F w cs x) (hF : ∀ b, F b → b < w.heap.size) :
    Calls Try.prog 62 #[.agg cs.toArray, .int .i64 ev] w fun e w' => e = .returned (.bool (callOk x ev)) ∧ Below w.heap.size w w' := by
  obtain ⟨k, key, arg, got, vals⟩ := x
  obtain ⟨A, c, rfl, hv⟩ := hx
  dsimp only at hv ⊢
  have HV := hide hv
  clear hv
  go_enter Try.func62, Try.ntmps62
  go_wp2_with (go_at_call 69; refine (shape_calls _ _).mono ?_; rintro e w' ⟨rfl, rfl⟩)
  any_goals (go_ret; exact ⟨ret_bool (by grind [callOk]), (Below.refl _ _).alloc (Nat.le_refl _) _⟩)
  have hlen := HV.out.len_le (by decide)
  obtain rfl : arg = 0 := by assumption
  obtain rfl : got = true := by simpa using (by assumption : (!got) = false)
  go_loopw [7] (fun i wr => ∃ j : Nat, (j < vals.length ∨ j = 0) ∧ i = .int .i64 (j + 1) ∧ Hid (k = 7 → ∀ i, i < j → vals.getD i 0 < vals.getD (i + 1) 0) ∧ Hid (∃ n, wr = World.drewN (w.alloc (.cells #[.int .i64 k, .string key, .int .i64 0, .bool true, .slice A vals.length c] 67)) n)) (fun i _ => vals.length - (intOf i).toNat)
  case atStart => exact ⟨0, .inr rfl, rfl, fun _ i hi => absurd hi (by omega), 0, rfl⟩
  case round =>
    obtain ⟨j, hj, rfl, hr, hw⟩ := hrel
    obtain ⟨n, rfl⟩ := hw.out
    clear hw
    by_cases h7 : k = 7
    · subst h7
      by_cases hlt : j + 1 < vals.length
      · obtain ⟨b, o, rfl, hFb, hc0⟩ := HV.out.int_at j (by omega)
        obtain ⟨b', o', hA', -, hc1⟩ := HV.out.int_at (j + 1) hlt
        obtain ⟨rfl, rfl⟩ : b' = b ∧ o' = o := by simpa using hA'.symm
        have hbb := hF _ hFb
        clear hA'
        go_wp2
        go_quiet (fail)
        go_wp2
        · have hle : vals[j + 1] ≤ vals[j] := by assumption
          have hR := hide (risesB_false hlt hle)
          go_ret
          exact ⟨ret_bool (by have := hR.out; grind [callOk]), (by repeat (first | exact Below.refl _ _ | apply below_drewN | apply Below.drew | (refine Below.alloc ?_ (by simp) _) | (refine Below.setCell ?_ (by simp) _)))⟩
        · have hle : vals[j] < vals[j + 1] := by assumption
          refine ⟨?_, ?measure⟩
          repeat apply Exists.intro
          refine ⟨?rel, rfl⟩
          case rel => exact ⟨j + 1, .inl hlt, by go_num, fun h7 i hi => (by
            rcases Nat.lt_or_ge i j with hij | hij
            · exact hr.out h7 i hij
            · obtain rfl : i = j := by omega
              simpa [List.getD_eq_getElem?_getD, List.getElem?_eq_getElem hlt, List.getElem?_eq_getElem (show i < vals.length by omega)] using hle), _, rfl⟩
          case measure => simp [intOf]; omega
      · have hR : Hid (risesB vals = true) := risesB_true fun i hi => hr.out rfl i (by omega)
        go_wp2
        go_ret
        exact ⟨ret_bool (by have := hR.out; grind [callOk]), (by repeat (first | exact Below.refl _ _ | apply below_drewN | apply Below.drew | (refine Below.alloc ?_ (by simp) _) | (refine Below.setCell ?_ (by simp) _)))⟩
    · go_wp2
      go_ret
      exact ⟨ret_bool (by grind [callOk]), (by repeat (first | exact Below.refl _ _ | apply below_drewN | apply Below.drew | (refine Below.alloc ?_ (by simp) _) | (refine Below.setCell ?_ (by simp) _)))⟩
end Go.Proofs.Ytjjmedgibcffhaa
