/- ref03.SameVals, SameCalls, Same and law04.same at two equal lists, walked. -/
import Derived.Test.YtjjmedgibcffhaaRPairsR
import Derived.Test.YtjjmedgibcffhaaRLex
namespace Go.Proofs.Ytjjmedgibcffhaa
open Go.RowKit Go.MapKept
set_option linter.unusedSimpArgs false
set_option linter.unusedVariables false

/-- The answer is true, and the world is the same but for draws. -/
def SaysTrue (w : World) (e : Ending) (w' : World) : Prop := e = .returned (.bool true) ∧ ∃ m, w' = w.drewN m

theorem SaysTrue.quiet {P : Program} {f : FuncId} {args : Array Value} {w : World} {n k : Nat} (h : Calls P f args (w.drewN (n + k)) (SaysTrue (w.drewN (n + k)))) :
    Calls P f args (w.drewN (n + k)) fun e w2 => e = .returned (.bool true) ∧ ∃ m, w2 = w.drewN (n + m) :=
  h.mono fun _ _ ⟨he, m, hm⟩ => ⟨he, k + m, by rw [hm, World.drewN_drewN, Nat.add_assoc]⟩
theorem Ty.Sl.drewN {α : Type} {t : Ty α} {F : Nat → Prop} {w : World} {A : Option Addr} {xs : List α} (h : t.Sl F w A xs) (n : Nat) : t.Sl F (w.drewN n) A xs := h.mono fun _ _ => rfl

set_option maxHeartbeats 1000000 in
set_option maxRecDepth 100000 in
theorem sameVals_calls (xs : List Int) (F G : Nat → Prop) (w : World) (A B : Option Addr) (c d : Nat) (hx : (Ty.int .i64).Sl F w A xs) (hy : (Ty.int .i64).Sl G w B xs) :
    Calls Try.prog 25 #[.slice A xs.length c, .slice B xs.length d] w (SaysTrue w) := by
  have HX := hide hx
  clear hx
  have HY := hide hy
  clear hy
  have hlen := HX.out.len_le (by decide)
  go_enter Try.func25, Try.ntmps25
  go_wp2
  go_loopw [5] (fun i wr => ∃ (j : Nat), j ≤ xs.length ∧ i = .int .i64 j ∧ Hid (∃ n, wr = World.drewN w n)) (fun i _ => xs.length - (intOf i).toNat)
  case atStart => exact ⟨0, by omega, rfl, 0, rfl⟩
  case round =>
    obtain ⟨j, hj, rfl, hw⟩ := hrel
    obtain ⟨n, rfl⟩ := hw.out
    clear hw
    by_cases hlt : j < xs.length
    · obtain ⟨b, o, rfl, hFb, hc0⟩ := HX.out.int_at j hlt
      obtain ⟨b', o', rfl, hFb', hd0⟩ := HY.out.int_at j hlt
      have hj0 : (0 : Int) ≤ (j : Int) := Int.natCast_nonneg _
      have hj1 : (j : Int) < (xs.length : Int) := by omega
      go_wp2
      go_quiet (fail)
      go_wp2
      first | exact ⟨⟨j + 1, by omega, by go_num, _, rfl⟩, by simp [intOf]; omega⟩ | exact ⟨by ((repeat apply Exists.intro); refine ⟨?_, rfl⟩; exact ⟨j + 1, by omega, by go_num, _, rfl⟩), by simp [intOf]; omega⟩
    · obtain rfl : j = xs.length := by omega
      go_wp2
      go_ret
      exact ⟨by first | rfl | (simp; done), _, rfl⟩

set_option maxHeartbeats 4000000 in
set_option maxRecDepth 100000 in
theorem sameCalls_calls (xs : List CallD) (F G : Nat → Prop) (w : World) (A B : Option Addr) (c d : Nat) (hx : Ty.call.Sl F w A xs) (hy : Ty.call.Sl G w B xs) :
    Calls Try.prog 46 #[.slice A xs.length c, .slice B xs.length d] w (SaysTrue w) := by
  have HX := hide hx
  clear hx
  have HY := hide hy
  clear hy
  have hlen := HX.out.len_le (by decide)
  go_enter Try.func46, Try.ntmps46
  go_wp2
  go_loopw [5] (fun i wr => ∃ (j : Nat), j ≤ xs.length ∧ i = .int .i64 j ∧ Hid (∃ n, wr = World.drewN w n)) (fun i _ => xs.length - (intOf i).toNat)
  case atStart => exact ⟨0, by omega, rfl, 0, rfl⟩
  case round =>
    obtain ⟨j, hj, rfl, hw⟩ := hrel
    obtain ⟨n, rfl⟩ := hw.out
    clear hw
    by_cases hlt : j < xs.length
    · obtain ⟨b, o, A', c', rfl, hFb, hv, hc0, hc1, hc2, hc3, hc4⟩ := HX.out.call_at j hlt
      obtain ⟨b', o', A1', c1', rfl, hFb', hv', hd0, hd1, hd2, hd3, hd4⟩ := HY.out.call_at j hlt
      have HV := hide hv
      clear hv
      have HV' := hide hv'
      clear hv'
      have hj0 : (0 : Int) ≤ (j : Int) := Int.natCast_nonneg _
      have hj1 : (j : Int) < (xs.length : Int) := by omega
      go_wp2
      refine wp_region_quiet_lit (by kernel_rfl) (lexB_of_chk (by kernel_rfl) (by kernel_rfl)) ?_
      (repeat (go_big_quiet_step ((go_at_call 25; exact SaysTrue.quiet (sameVals_calls xs[j].vals F G _ A' A1' c' c1' (HV.out.drewN _) (HV'.out.drewN _))))))
      refine wpQuiet_nil ?_
      intro _ hw'
      obtain ⟨nq, hw''⟩ := hw'
      subst hw''
      go_wp2
      first | exact ⟨⟨j + 1, by omega, by go_num, _, rfl⟩, by simp [intOf]; omega⟩ | exact ⟨by ((repeat apply Exists.intro); refine ⟨?_, rfl⟩; exact ⟨j + 1, by omega, by go_num, _, rfl⟩), by simp [intOf]; omega⟩
    · obtain rfl : j = xs.length := by omega
      go_wp2
      go_ret
      exact ⟨by first | rfl | (simp; done), _, rfl⟩

set_option maxHeartbeats 4000000 in
set_option maxRecDepth 100000 in
theorem sameEvents_calls (xs : List EventD) (n m : Nat) (hn : xs.length = n) (hm : xs.length = m) (F G : Nat → Prop) (w : World) (A B : Option Addr) (c d : Nat) (hx : Ty.event.Sl F w A xs) (hy : Ty.event.Sl G w B xs) :
    Calls Try.prog 26 #[.slice A n c, .slice B m d] w (SaysTrue w) := by
  subst hn
  subst hm
  have HX := hide hx
  clear hx
  have HY := hide hy
  clear hy
  have hlen := HX.out.len_le (by decide)
  go_enter Try.func26, Try.ntmps26
  go_wp2
  go_loopw [5] (fun i wr => ∃ (j : Nat), j ≤ xs.length ∧ i = .int .i64 j ∧ Hid (∃ n, wr = World.drewN w n)) (fun i _ => xs.length - (intOf i).toNat)
  case atStart => exact ⟨0, by omega, rfl, 0, rfl⟩
  case round =>
    obtain ⟨j, hj, rfl, hw⟩ := hrel
    obtain ⟨n, rfl⟩ := hw.out
    clear hw
    by_cases hlt : j < xs.length
    · obtain ⟨b, o, A', c', rfl, hFb, hv, hc0, hc1, hc2⟩ := HX.out.event_at j hlt
      obtain ⟨b', o', A1', c1', rfl, hFb', hv', hd0, hd1, hd2⟩ := HY.out.event_at j hlt
      have HV := hide hv
      clear hv
      have HV' := hide hv'
      clear hv'
      have hj0 : (0 : Int) ≤ (j : Int) := Int.natCast_nonneg _
      have hj1 : (j : Int) < (xs.length : Int) := by omega
      go_wp2
      refine wp_region_quiet_lit (by kernel_rfl) (lexB_of_chk (by kernel_rfl) (by kernel_rfl)) ?_
      (repeat (go_big_quiet_step ((go_at_call 46; exact SaysTrue.quiet (sameCalls_calls xs[j].calls F G _ A' A1' c' c1' (HV.out.drewN _) (HV'.out.drewN _))))))
      refine wpQuiet_nil ?_
      intro _ hw'
      obtain ⟨nq, hw''⟩ := hw'
      subst hw''
      go_wp2
      first | exact ⟨⟨j + 1, by omega, by go_num, _, rfl⟩, by simp [intOf]; omega⟩ | exact ⟨by ((repeat apply Exists.intro); refine ⟨?_, rfl⟩; exact ⟨j + 1, by omega, by go_num, _, rfl⟩), by simp [intOf]; omega⟩
    · obtain rfl : j = xs.length := by omega
      go_wp2
      go_ret
      exact ⟨by first | rfl | (simp; done), _, rfl⟩

set_option maxHeartbeats 4000000 in
set_option maxRecDepth 100000 in
theorem samePairs_calls (xs : List PairD) (F G : Nat → Prop) (w : World) (A B : Option Addr) (c d : Nat) (hx : Ty.pair.Sl F w A xs) (hy : Ty.pair.Sl G w B xs) :
    Calls Try.prog 24 #[.slice A xs.length c, .slice B xs.length d] w (SaysTrue w) := by
  have HX := hide hx
  clear hx
  have HY := hide hy
  clear hy
  have hlen := HX.out.len_le (by decide)
  go_enter Try.func24, Try.ntmps24
  go_wp2
  go_loopw [5] (fun i wr => ∃ (j : Nat), j ≤ xs.length ∧ i = .int .i64 j ∧ Hid (∃ n, wr = World.drewN w n)) (fun i _ => xs.length - (intOf i).toNat)
  case atStart => exact ⟨0, by omega, rfl, 0, rfl⟩
  case round =>
    obtain ⟨j, hj, rfl, hw⟩ := hrel
    obtain ⟨n, rfl⟩ := hw.out
    clear hw
    by_cases hlt : j < xs.length
    · obtain ⟨b, o, rfl, hFb, hc0, hc1, hc2⟩ := HX.out.pair_at j hlt
      obtain ⟨b', o', rfl, hFb', hd0, hd1, hd2⟩ := HY.out.pair_at j hlt
      have hj0 : (0 : Int) ≤ (j : Int) := Int.natCast_nonneg _
      have hj1 : (j : Int) < (xs.length : Int) := by omega
      go_wp2
      go_quiet (fail)
      go_wp2
      first | exact ⟨⟨j + 1, by omega, by go_num, _, rfl⟩, by simp [intOf]; omega⟩ | exact ⟨by ((repeat apply Exists.intro); refine ⟨?_, rfl⟩; exact ⟨j + 1, by omega, by go_num, _, rfl⟩), by simp [intOf]; omega⟩
    · obtain rfl : j = xs.length := by omega
      go_wp2
      go_ret
      exact ⟨by first | rfl | (simp; done), _, rfl⟩
end Go.Proofs.Ytjjmedgibcffhaa
