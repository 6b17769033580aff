/- A part of the texts that stand behind this law. -/
import Derived.Test.YtjjmedgibcffhaaZc1
/- A cheaper test that a drawn region may be walked in the order of the text. -/
namespace Go.Proofs.Ytjjmedgibcffhaa
open Go.RowKit

def lexChk (md : Region.Mode) (ops : Array Oper) : Nat → List Oper → Bool
  | _, [] => true
  | k, o :: rest => (o.after.all fun e => !Region.binds md e || Nat.blt e.on k) && (rest.all fun oj => (oj.after.any fun e => Region.binds md e && e.on == k) || o.apart ops oj) && lexChk md ops (k + 1) rest

theorem lexFrom_of_chk (md : Region.Mode) (ops : Array Oper) : ∀ (l : List Oper) (k : Nat) (L : Array Bool), (∀ j, l[j]? = ops[k + j]?) → ops.size = k + l.length →
    (∀ i, L[i]? = if i < ops.size then some (decide (i < k)) else none) → lexChk md ops k l = true → Region.lexFrom md ops l.length k L = true
  | [], k, L, hl, hn, hL, _ => by
    simp only [List.length_nil, Nat.add_zero] at hn
    simp only [List.length_nil, Region.lexFrom, List.isEmpty_iff, Region.ready, List.filter_eq_nil_iff, List.mem_range]
    intro i hi
    have : L.getD i true = true := by rw [Array.getD_eq_getD_getElem?, hL i, if_pos hi]; simp; omega
    simp [this]
  | o :: rest, k, L, hl, hn, hL, hc => by
    have hk : k < ops.size := by rw [hn]; simp
    have h0 : ops[k]? = some o := by simpa using (hl 0).symm
    simp only [lexChk, Bool.and_eq_true] at hc
    obtain ⟨⟨h1, h2⟩, h3⟩ := hc
    simp only [List.length_cons, Region.lexFrom, Bool.and_eq_true]
    refine ⟨⟨?_, ?_⟩, ?_⟩
    · simp only [Region.ready, List.contains_iff_mem, List.mem_filter, List.mem_range, hk, true_and, h0, Bool.and_eq_true]
      refine ⟨?_, ?_⟩
      · rw [Array.getD_eq_getD_getElem?, hL k, if_pos hk]; simp
      · simp only [Option.map_some, Option.getD_some]
        rw [Array.all_eq_true_iff_forall_mem] at h1 ⊢
        intro e he
        have := h1 e he
        simp only [Bool.or_eq_true] at this ⊢
        rcases this with h | h
        · exact .inl h
        · right
          have h : e.on < k := by simpa [Nat.blt_eq] using h
          rw [Array.getD_eq_getD_getElem?, hL e.on, if_pos (by omega)]
          simpa using h
    · simp only [Region.free, h0, List.all_eq_true, List.mem_range]
      intro j hj
      rcases Nat.lt_trichotomy j k with hlt | rfl | hgt
      · have : L.getD j true = true := by rw [Array.getD_eq_getD_getElem?, hL j, if_pos hj]; simpa using hlt
        simp [this]
      · simp
      · have hjr : rest[j - k - 1]? = ops[j]? := by
          have := hl (j - k)
          rw [show k + (j - k) = j by omega] at this
          rw [← this, show j - k = (j - k - 1) + 1 by omega, List.getElem?_cons_succ]
          simp
        rw [Array.getElem?_eq_getElem hj] at hjr ⊢
        have hm := List.mem_of_getElem? hjr
        have := List.all_eq_true.1 h2 _ hm
        simp only [this, Bool.or_true]
    · refine lexFrom_of_chk md ops rest (k + 1) _ (fun j => ?_) (by rw [hn]; simp; omega) (fun i => ?_) h3
      · have := hl (j + 1)
        rw [List.getElem?_cons_succ] at this
        rw [this]
        congr 1
        omega
      · rw [Array.getElem?_setIfInBounds]
        have hLs : L.size = ops.size := by
          rcases Nat.lt_trichotomy L.size ops.size with h | h | h
          · have := hL L.size; rw [if_pos h] at this; simp at this
          · exact h
          · have := hL ops.size; rw [if_neg (by omega), Array.getElem?_eq_getElem h] at this; cases this
        split
        · rename_i e
          subst e
          rw [if_pos (by rw [hLs]; exact hk), if_pos hk]
          simp
        · rw [hL i]
          split
          · congr 1
            apply decide_eq_decide.2
            omega
          · rfl

theorem lexB_of_chk {md : Region.Mode} {l : List Oper} (hs : Region.noSelect l.toArray = true) (h : lexChk md l.toArray 0 l = true) : Region.lexB md l.toArray = true := by
  simp only [Region.lexB, Bool.and_eq_true]
  refine ⟨hs, ?_⟩
  have := lexFrom_of_chk md l.toArray l 0 (Array.replicate l.toArray.size false) (by simp) (by simp) (fun i => by
    rw [Array.getElem?_replicate]
    simp) h
  simpa using this
end Go.Proofs.Ytjjmedgibcffhaa
/- ref03.SameVals, SameCalls, Same and law04.same at two equal lists, walked. -/
namespace Go.Proofs.Ytjjmedgibcffhaa
open Go.RowKit Go.MapKept
set_option linter.unusedSimpArgs false
set_option linter.unusedVariables false

/-- The answer is true, and the world is the same but for draws. -/
def SaysTrue (w : World) (e : Ending) (w' : World) : Prop := e = .returned (.bool true) ∧ ∃ m, w' = w.drewN m

theorem SaysTrue.quiet {P : Program} {f : FuncId} {args : Array Value} {w : World} {n k : Nat} (h : Calls P f args (w.drewN (n + k)) (SaysTrue (w.drewN (n + k)))) :
    Calls P f args (w.drewN (n + k)) fun e w2 => e = .returned (.bool true) ∧ ∃ m, w2 = w.drewN (n + m) :=
  h.mono fun _ _ ⟨he, m, hm⟩ => ⟨he, k + m, by rw [hm, World.drewN_drewN, Nat.add_assoc]⟩
theorem Ty.Sl.drewN {α : Type} {t : Ty α} {F : Nat → Prop} {w : World} {A : Option Addr} {xs : List α} (h : t.Sl F w A xs) (n : Nat) : t.Sl F (w.drewN n) A xs := h.mono fun _ _ => rfl

set_option maxHeartbeats 1000000 in
set_option maxRecDepth 100000 in
theorem sameVals_calls (xs : List Int) (F G : Nat → Prop) (w : World) (A B : Option Addr) (c d : Nat) (hx : (Ty.int .i64).Sl F w A xs) (hy : (Ty.int .i64).Sl G w B xs) :
    Calls Try.prog 25 #[.slice A xs.length c, .slice B xs.length d] w (SaysTrue w) := by
  have HX := hide hx
  clear hx
  have HY := hide hy
  clear hy
  have hlen := HX.out.len_le (by decide)
  go_enter Try.func25, Try.ntmps25
  go_wp2
  go_loopw [5] (fun i wr => ∃ (j : Nat), j ≤ xs.length ∧ i = .int .i64 j ∧ Hid (∃ n, wr = World.drewN w n)) (fun i _ => xs.length - (intOf i).toNat)
  case atStart => exact ⟨0, by omega, rfl, 0, rfl⟩
  case round =>
    obtain ⟨j, hj, rfl, hw⟩ := hrel
    obtain ⟨n, rfl⟩ := hw.out
    clear hw
    by_cases hlt : j < xs.length
    · obtain ⟨b, o, rfl, hFb, hc0⟩ := HX.out.int_at j hlt
      obtain ⟨b', o', rfl, hFb', hd0⟩ := HY.out.int_at j hlt
      have hj0 : (0 : Int) ≤ (j : Int) := Int.natCast_nonneg _
      have hj1 : (j : Int) < (xs.length : Int) := by omega
      go_wp2
      go_quiet (fail)
      go_wp2
      first | exact ⟨⟨j + 1, by omega, by go_num, _, rfl⟩, by simp [intOf]; omega⟩ | exact ⟨by ((repeat apply Exists.intro); refine ⟨?_, rfl⟩; exact ⟨j + 1, by omega, by go_num, _, rfl⟩), by simp [intOf]; omega⟩
    · obtain rfl : j = xs.length := by omega
      go_wp2
      go_ret
      exact ⟨by first | rfl | (simp; done), _, rfl⟩

set_option maxHeartbeats 4000000 in
set_option maxRecDepth 100000 in
theorem sameCalls_calls (xs : List CallD) (F G : Nat → Prop) (w : World) (A B : Option Addr) (c d : Nat) (hx : Ty.call.Sl F w A xs) (hy : Ty.call.Sl G w B xs) :
    Calls Try.prog 46 #[.slice A xs.length c, .slice B xs.length d] w (SaysTrue w) := by
  have HX := hide hx
  clear hx
  have HY := hide hy
  clear hy
  have hlen := HX.out.len_le (by decide)
  go_enter Try.func46, Try.ntmps46
  go_wp2
  go_loopw [5] (fun i wr => ∃ (j : Nat), j ≤ xs.length ∧ i = .int .i64 j ∧ Hid (∃ n, wr = World.drewN w n)) (fun i _ => xs.length - (intOf i).toNat)
  case atStart => exact ⟨0, by omega, rfl, 0, rfl⟩
  case round =>
    obtain ⟨j, hj, rfl, hw⟩ := hrel
    obtain ⟨n, rfl⟩ := hw.out
    clear hw
    by_cases hlt : j < xs.length
    · obtain ⟨b, o, A', c', rfl, hFb, hv, hc0, hc1, hc2, hc3, hc4⟩ := HX.out.call_at j hlt
      obtain ⟨b', o', A1', c1', rfl, hFb', hv', hd0, hd1, hd2, hd3, hd4⟩ := HY.out.call_at j hlt
      have HV := hide hv
      clear hv
      have HV' := hide hv'
      clear hv'
      have hj0 : (0 : Int) ≤ (j : Int) := Int.natCast_nonneg _
      have hj1 : (j : Int) < (xs.length : Int) := by omega
      go_wp2
      refine wp_region_quiet_lit (by kernel_rfl) (lexB_of_chk (by kernel_rfl) (by kernel_rfl)) ?_
      (repeat (go_big_quiet_step ((go_at_call 25; exact SaysTrue.quiet (sameVals_calls xs[j].vals F G _ A' A1' c' c1' (HV.out.drewN _) (HV'.out.drewN _))))))
      refine wpQuiet_nil ?_
      intro _ hw'
      obtain ⟨nq, hw''⟩ := hw'
      subst hw''
      go_wp2
      first | exact ⟨⟨j + 1, by omega, by go_num, _, rfl⟩, by simp [intOf]; omega⟩ | exact ⟨by ((repeat apply Exists.intro); refine ⟨?_, rfl⟩; exact ⟨j + 1, by omega, by go_num, _, rfl⟩), by simp [intOf]; omega⟩
    · obtain rfl : j = xs.length := by omega
      go_wp2
      go_ret
      exact ⟨by first | rfl | (simp; done), _, rfl⟩

set_option maxHeartbeats 4000000 in
set_option maxRecDepth 100000 in
theorem sameEvents_calls (xs : List EventD) (n m : Nat) (hn : xs.length = n) (hm : xs.length = m) (F G : Nat → Prop) (w : World) (A B : Option Addr) (c d : Nat) (hx : Ty.event.Sl F w A xs) (hy : Ty.event.Sl G w B xs) :
    Calls Try.prog 26 #[.slice A n c, .slice B m d] w (SaysTrue w) := by
  subst hn
  subst hm
  have HX := hide hx
  clear hx
  have HY := hide hy
  clear hy
  have hlen := HX.out.len_le (by decide)
  go_enter Try.func26, Try.ntmps26
  go_wp2
  go_loopw [5] (fun i wr => ∃ (j : Nat), j ≤ xs.length ∧ i = .int .i64 j ∧ Hid (∃ n, wr = World.drewN w n)) (fun i _ => xs.length - (intOf i).toNat)
  case atStart => exact ⟨0, by omega, rfl, 0, rfl⟩
  case round =>
    obtain ⟨j, hj, rfl, hw⟩ := hrel
    obtain ⟨n, rfl⟩ := hw.out
    clear hw
    by_cases hlt : j < xs.length
    · obtain ⟨b, o, A', c', rfl, hFb, hv, hc0, hc1, hc2⟩ := HX.out.event_at j hlt
      obtain ⟨b', o', A1', c1', rfl, hFb', hv', hd0, hd1, hd2⟩ := HY.out.event_at j hlt
      have HV := hide hv
      clear hv
      have HV' := hide hv'
      clear hv'
      have hj0 : (0 : Int) ≤ (j : Int) := Int.natCast_nonneg _
      have hj1 : (j : Int) < (xs.length : Int) := by omega
      go_wp2
      refine wp_region_quiet_lit (by kernel_rfl) (lexB_of_chk (by kernel_rfl) (by kernel_rfl)) ?_
      (repeat (go_big_quiet_step ((go_at_call 46; exact SaysTrue.quiet (sameCalls_calls xs[j].calls F G _ A' A1' c' c1' (HV.out.drewN _) (HV'.out.drewN _))))))
      refine wpQuiet_nil ?_
      intro _ hw'
      obtain ⟨nq, hw''⟩ := hw'
      subst hw''
      go_wp2
      first | exact ⟨⟨j + 1, by omega, by go_num, _, rfl⟩, by simp [intOf]; omega⟩ | exact ⟨by ((repeat apply Exists.intro); refine ⟨?_, rfl⟩; exact ⟨j + 1, by omega, by go_num, _, rfl⟩), by simp [intOf]; omega⟩
    · obtain rfl : j = xs.length := by omega
      go_wp2
      go_ret
      exact ⟨by first | rfl | (simp; done), _, rfl⟩

set_option maxHeartbeats 4000000 in
set_option maxRecDepth 100000 in
theorem samePairs_calls (xs : List PairD) (F G : Nat → Prop) (w : World) (A B : Option Addr) (c d : Nat) (hx : Ty.pair.Sl F w A xs) (hy : Ty.pair.Sl G w B xs) :
    Calls Try.prog 24 #[.slice A xs.length c, .slice B xs.length d] w (SaysTrue w) := by
  have HX := hide hx
  clear hx
  have HY := hide hy
  clear hy
  have hlen := HX.out.len_le (by decide)
  go_enter Try.func24, Try.ntmps24
  go_wp2
  go_loopw [5] (fun i wr => ∃ (j : Nat), j ≤ xs.length ∧ i = .int .i64 j ∧ Hid (∃ n, wr = World.drewN w n)) (fun i _ => xs.length - (intOf i).toNat)
  case atStart => exact ⟨0, by omega, rfl, 0, rfl⟩
  case round =>
    obtain ⟨j, hj, rfl, hw⟩ := hrel
    obtain ⟨n, rfl⟩ := hw.out
    clear hw
    by_cases hlt : j < xs.length
    · obtain ⟨b, o, rfl, hFb, hc0, hc1, hc2⟩ := HX.out.pair_at j hlt
      obtain ⟨b', o', rfl, hFb', hd0, hd1, hd2⟩ := HY.out.pair_at j hlt
      have hj0 : (0 : Int) ≤ (j : Int) := Int.natCast_nonneg _
      have hj1 : (j : Int) < (xs.length : Int) := by omega
      go_wp2
      go_quiet (fail)
      go_wp2
      first | exact ⟨⟨j + 1, by omega, by go_num, _, rfl⟩, by simp [intOf]; omega⟩ | exact ⟨by ((repeat apply Exists.intro); refine ⟨?_, rfl⟩; exact ⟨j + 1, by omega, by go_num, _, rfl⟩), by simp [intOf]; omega⟩
    · obtain rfl : j = xs.length := by omega
      go_wp2
      go_ret
      exact ⟨by first | rfl | (simp; done), _, rfl⟩
end Go.Proofs.Ytjjmedgibcffhaa
