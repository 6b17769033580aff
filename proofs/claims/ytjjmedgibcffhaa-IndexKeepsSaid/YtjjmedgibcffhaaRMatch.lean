/- pair.Match, walked: what it computes of any two events. -/
import Derived.Test.YtjjmedgibcffhaaRWi
namespace Go.Proofs.Ytjjmedgibcffhaa
open Go.RowKit
set_option linter.unusedSimpArgs false

def callEq (c d : CallD) : Bool := decide (c.kind = d.kind) && decide (c.key.toList = d.key.toList) && decide (c.arg = d.arg)
def callsEq (l m : List CallD) : Bool := decide (l.length = m.length) && (l.zip m).all fun p => callEq p.1 p.2
def matchB (a b : EventD) : Bool := decide (a.proc = b.proc) && callsEq a.calls b.calls

set_option maxHeartbeats 400000 in
theorem match1_calls (x y : CallD) (F : Nat → Prop) (w : World) (cs ds : List Value) (hx : Ty.call.K F w cs x) (hy : Ty.call.K F w ds y) :
    Calls Try.prog 43 #[.agg cs.toArray, .agg ds.toArray] w fun e w' => e = .returned (.bool (callEq x y)) ∧ Below w.heap.size w w' := by
  obtain ⟨A, c, rfl, -⟩ := hx
  obtain ⟨A', c', rfl, -⟩ := hy
  go_enter Try.func43, Try.ntmps43
  go_wp2
  all_goals go_ret
  all_goals exact ⟨ret_bool (by grind [callEq]), (show Below _ _ _ by repeat (first | assumption | (with_reducible exact Below.refl _ _) | (with_reducible apply below_drewN) | (with_reducible apply Below.drew) | (with_reducible refine Below.alloc2_ ?_ (by first | assumption | exact Nat.le_refl _ | omega | (simp; done) | (simp; omega)) _) | (with_reducible refine Below.setCell ?_ (by first | assumption | exact Nat.le_refl _ | omega | (simp; done) | (simp; omega)) _) | (with_reducible refine Below.then2_ ?_ (by assumption) (by first | assumption | exact Nat.le_refl _ | omega | (simp; done) | (simp; omega))) | exact Below.drew (by assumption) | exact Below.drew (Below.refl _ _)))⟩

theorem callsEq_len {l m : List CallD} (h : l.length ≠ m.length) : callsEq l m = false := by simp [callsEq, h]
theorem callsEq_bad {l m : List CallD} (j : Nat) (h : j < l.length) (h' : j < m.length) (hb : callEq l[j] m[j] = false) : callsEq l m = false := by
  unfold callsEq
  rw [Bool.and_eq_false_iff]
  right
  rw [List.all_eq_false]
  exact ⟨(l[j], m[j]), by rw [List.mem_iff_getElem]; exact ⟨j, by simp; omega, by simp⟩, by simp [hb]⟩
theorem callsEq_good {l m : List CallD} (hl : l.length = m.length) (hb : ∀ i (h : i < l.length), callEq l[i] (m[i]'(by omega)) = true) : callsEq l m = true := by
  unfold callsEq
  rw [Bool.and_eq_true]
  refine ⟨by simp [hl], ?_⟩
  rw [List.all_eq_true]
  intro x hx
  obtain ⟨i, hi, rfl⟩ := List.getElem_of_mem hx
  simp at hi
  simpa using hb i (by omega)

set_option maxHeartbeats 1000000 in
theorem equal42_calls (xs ys : List CallD) (F : Nat → Prop) (w : World) (A A1 : Option Addr) (c c1 : Nat) (hx : Ty.call.Sl F w A xs) (hy : Ty.call.Sl F w A1 ys) (hF : ∀ b, F b → b < w.heap.size) :
    Calls Try.prog 42 #[.slice A xs.length c, .slice A1 ys.length c1, .func (.func 43) #[] #[]] w fun e w' => e = .returned (.bool (callsEq xs ys)) ∧ Below w.heap.size w w' := by
  have HX := hide hx
  clear hx
  have HY := hide hy
  clear hy
  have HF := hide hF
  clear hF
  have hlen := HX.out.len_le (by decide)
  have hlen' := HY.out.len_le (by decide)
  by_cases hl : xs.length = ys.length
  · have HL := hide hl
    have hl1 : xs.length ≤ ys.length := by omega
    have hl2 : ((xs.length : Int) != (ys.length : Int)) = false := by rw [hl]; simp
    clear hl
    go_enter Try.func42, Try.ntmps42
    go_wp2
    go_loopw [17] (fun i wr => ∃ j : Nat, j ≤ xs.length ∧ i = .int .i64 j ∧ Hid (∀ i (hi : i < xs.length) (hi' : i < ys.length), i < j → callEq xs[i] ys[i] = true) ∧ Hid (Below w.heap.size w wr)) (fun i _ => xs.length - (intOf i).toNat)
    case atStart => exact ⟨0, by omega, rfl, fun i _ _ hi => absurd hi (by omega), Below.refl _ _⟩
    case round =>
      obtain ⟨j, hj, rfl, hr, hb⟩ := hrel
      have hb := hb.out
      have hsz := hb.size
      by_cases hlt : j < xs.length
      · obtain ⟨b, o, A', c', rfl, hFb, hv, hc0, hc1, hc2, hc3, hc4⟩ := (HX.out.mono (w' := wr) (fun b hb' => hb.block b (HF.out b hb'))).call_at j hlt
        obtain ⟨b', o', A1', c1', rfl, hFb', hv', hd0, hd1, hd2, hd3, hd4⟩ := (HY.out.mono (w' := wr) (fun b hb' => hb.block b (HF.out b hb'))).call_at j (by omega)
        have hbb : b < wr.heap.size := by have := HF.out b hFb; omega
        have hbb' : b' < wr.heap.size := by have := HF.out b' hFb'; omega
        have hlt' : j < ys.length := by omega
        have HV := hide hv
        clear hv
        have HV' := hide hv'
        clear hv'
        go_wp2_with (go_at_call 43; refine (match1_calls xs[j] ys[j] F _ _ _ ⟨A', c', rfl, HV.out.mono (SameOn.of_below (show Below _ _ _ by repeat (first | assumption | (with_reducible exact Below.refl _ _) | (with_reducible apply below_drewN) | (with_reducible apply Below.drew) | (with_reducible refine Below.alloc2_ ?_ (by first | assumption | exact Nat.le_refl _ | omega | (simp; done) | (simp; omega)) _) | (with_reducible refine Below.setCell ?_ (by first | assumption | exact Nat.le_refl _ | omega | (simp; done) | (simp; omega)) _) | (with_reducible refine Below.then2_ ?_ (by assumption) (by first | assumption | exact Nat.le_refl _ | omega | (simp; done) | (simp; omega))) | exact Below.drew (by assumption) | exact Below.drew (Below.refl _ _))) fun b hb' => by have := HF.out b hb'; omega)⟩ ⟨A1', c1', rfl, HV'.out.mono (SameOn.of_below (show Below _ _ _ by repeat (first | assumption | (with_reducible exact Below.refl _ _) | (with_reducible apply below_drewN) | (with_reducible apply Below.drew) | (with_reducible refine Below.alloc2_ ?_ (by first | assumption | exact Nat.le_refl _ | omega | (simp; done) | (simp; omega)) _) | (with_reducible refine Below.setCell ?_ (by first | assumption | exact Nat.le_refl _ | omega | (simp; done) | (simp; omega)) _) | (with_reducible refine Below.then2_ ?_ (by assumption) (by first | assumption | exact Nat.le_refl _ | omega | (simp; done) | (simp; omega))) | exact Below.drew (by assumption) | exact Below.drew (Below.refl _ _))) fun b hb' => by have := HF.out b hb'; omega)⟩).mono ?_; rintro e w' ⟨rfl, hb1⟩)
        · have hp : callEq xs[j] ys[j] = false := by first | assumption | simpa using (by assumption : (!callEq xs[j] ys[j]) = true)
          go_ret
          exact ⟨ret_bool (callsEq_bad j hlt hlt' hp).symm, (show Below _ _ _ by repeat (first | assumption | (with_reducible exact Below.refl _ _) | (with_reducible apply below_drewN) | (with_reducible apply Below.drew) | (with_reducible refine Below.alloc2_ ?_ (by first | assumption | exact Nat.le_refl _ | omega | (simp; done) | (simp; omega)) _) | (with_reducible refine Below.setCell ?_ (by first | assumption | exact Nat.le_refl _ | omega | (simp; done) | (simp; omega)) _) | (with_reducible refine Below.then2_ ?_ (by assumption) (by first | assumption | exact Nat.le_refl _ | omega | (simp; done) | (simp; omega))) | exact Below.drew (by assumption) | exact Below.drew (Below.refl _ _)))⟩
        · have hp : callEq xs[j] ys[j] = true := by first | assumption | simpa using (by assumption : (!callEq xs[j] ys[j]) = false)
          have hn : ∀ i (hi : i < xs.length) (hi' : i < ys.length), i < j + 1 → callEq xs[i] ys[i] = true := fun i h1 h1' h2 => (by
            rcases Nat.lt_or_ge i j with hij | hij
            · exact hr.out i h1 h1' hij
            · obtain rfl : i = j := by omega
              exact hp)
          first | exact ⟨⟨j + 1, by omega, by go_num, hn, (show Below _ _ _ by repeat (first | assumption | (with_reducible exact Below.refl _ _) | (with_reducible apply below_drewN) | (with_reducible apply Below.drew) | (with_reducible refine Below.alloc2_ ?_ (by first | assumption | exact Nat.le_refl _ | omega | (simp; done) | (simp; omega)) _) | (with_reducible refine Below.setCell ?_ (by first | assumption | exact Nat.le_refl _ | omega | (simp; done) | (simp; omega)) _) | (with_reducible refine Below.then2_ ?_ (by assumption) (by first | assumption | exact Nat.le_refl _ | omega | (simp; done) | (simp; omega))) | exact Below.drew (by assumption) | exact Below.drew (Below.refl _ _)))⟩, by simp [intOf]; omega⟩ | exact ⟨by ((repeat apply Exists.intro); refine ⟨?_, rfl⟩; exact ⟨j + 1, by omega, by go_num, hn, (show Below _ _ _ by repeat (first | assumption | (with_reducible exact Below.refl _ _) | (with_reducible apply below_drewN) | (with_reducible apply Below.drew) | (with_reducible refine Below.alloc2_ ?_ (by first | assumption | exact Nat.le_refl _ | omega | (simp; done) | (simp; omega)) _) | (with_reducible refine Below.setCell ?_ (by first | assumption | exact Nat.le_refl _ | omega | (simp; done) | (simp; omega)) _) | (with_reducible refine Below.then2_ ?_ (by assumption) (by first | assumption | exact Nat.le_refl _ | omega | (simp; done) | (simp; omega))) | exact Below.drew (by assumption) | exact Below.drew (Below.refl _ _)))⟩), by simp [intOf]; omega⟩
      · go_wp2
        go_ret
        exact ⟨ret_bool (callsEq_good HL.out fun i hi => hr.out i hi (by omega) (by omega)).symm, hb⟩
  · go_enter Try.func42, Try.ntmps42
    go_wp2
    go_ret
    exact ⟨ret_bool (callsEq_len hl).symm, Below.refl _ _⟩

set_option maxHeartbeats 400000 in
theorem match_calls (x y : EventD) (F : Nat → Prop) (w : World) (cs ds : List Value) (hx : Ty.event.K F w cs x) (hy : Ty.event.K F w ds y) (hF : ∀ b, F b → b < w.heap.size) :
    Calls Try.prog 17 #[.agg cs.toArray, .agg ds.toArray] w fun e w' => e = .returned (.bool (matchB x y)) ∧ Below w.heap.size w w' := by
  obtain ⟨A, c, rfl, hx⟩ := hx
  obtain ⟨A', c', rfl, hy⟩ := hy
  have HX := hide hx
  clear hx
  have HY := hide hy
  clear hy
  have HF := hide hF
  clear hF
  go_enter Try.func17, Try.ntmps17
  go_wp2_with (go_at_call 42; refine (equal42_calls x.calls y.calls F _ _ _ _ _ (HX.out.mono (SameOn.of_below (show Below _ _ _ by repeat (first | assumption | (with_reducible exact Below.refl _ _) | (with_reducible apply below_drewN) | (with_reducible apply Below.drew) | (with_reducible refine Below.alloc2_ ?_ (by first | assumption | exact Nat.le_refl _ | omega | (simp; done) | (simp; omega)) _) | (with_reducible refine Below.setCell ?_ (by first | assumption | exact Nat.le_refl _ | omega | (simp; done) | (simp; omega)) _) | (with_reducible refine Below.then2_ ?_ (by assumption) (by first | assumption | exact Nat.le_refl _ | omega | (simp; done) | (simp; omega))) | exact Below.drew (by assumption) | exact Below.drew (Below.refl _ _))) HF.out)) (HY.out.mono (SameOn.of_below (show Below _ _ _ by repeat (first | assumption | (with_reducible exact Below.refl _ _) | (with_reducible apply below_drewN) | (with_reducible apply Below.drew) | (with_reducible refine Below.alloc2_ ?_ (by first | assumption | exact Nat.le_refl _ | omega | (simp; done) | (simp; omega)) _) | (with_reducible refine Below.setCell ?_ (by first | assumption | exact Nat.le_refl _ | omega | (simp; done) | (simp; omega)) _) | (with_reducible refine Below.then2_ ?_ (by assumption) (by first | assumption | exact Nat.le_refl _ | omega | (simp; done) | (simp; omega))) | exact Below.drew (by assumption) | exact Below.drew (Below.refl _ _))) HF.out)) (fun b hb' => by have := HF.out b hb'; simp; omega)).mono ?_; rintro e w' ⟨rfl, hb1⟩)
  all_goals go_ret
  all_goals exact ⟨ret_bool (by grind [matchB]), (show Below _ _ _ by repeat (first | assumption | (with_reducible exact Below.refl _ _) | (with_reducible apply below_drewN) | (with_reducible apply Below.drew) | (with_reducible refine Below.alloc2_ ?_ (by first | assumption | exact Nat.le_refl _ | omega | (simp; done) | (simp; omega)) _) | (with_reducible refine Below.setCell ?_ (by first | assumption | exact Nat.le_refl _ | omega | (simp; done) | (simp; omega)) _) | (with_reducible refine Below.then2_ ?_ (by assumption) (by first | assumption | exact Nat.le_refl _ | omega | (simp; done) | (simp; omega))) | exact Below.drew (by assumption) | exact Below.drew (Below.refl _ _)))⟩
end Go.Proofs.Ytjjmedgibcffhaa
