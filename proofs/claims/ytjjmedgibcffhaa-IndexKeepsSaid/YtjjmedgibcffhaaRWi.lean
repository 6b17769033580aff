/- Texts that stand behind this law. -/
import Derived.Test.YtjjmedgibcffhaaRKa
namespace Go.Proofs.Ytjjmedgibcffhaa
open Go.RowKit
set_option linter.unusedSimpArgs false

def shapeF (k : Int) : Int × Int := if k = 5 then (0, 1) else if k = 8 then (1, 1) else (0, 64)

set_option maxHeartbeats 400000 in
theorem shape_calls (k : Int) (w : World) :
    Calls Try.prog 69 #[.int .i64 k] w fun e w' => e = .returned (.tuple #[.int .i64 (shapeF k).1, .int .i64 (shapeF k).2]) ∧ w = w' := by
  unfold shapeF
  by_cases h5 : k = 5
  · subst h5
    go_enter Try.func69, Try.ntmps69
    go_wp2
    go_ret2
    exact ⟨rfl, rfl⟩
  · by_cases h8 : k = 8
    · subst h8
      go_enter Try.func69, Try.ntmps69
      go_wp2
      go_ret2
      exact ⟨rfl, rfl⟩
    · go_enter Try.func69, Try.ntmps69
      go_wp2
      go_ret2
      exact ⟨by simp [h5, h8], rfl⟩

def risesB (l : List Int) : Bool := (List.range (l.length - 1)).all fun i => decide (l.getD i 0 < l.getD (i + 1) 0)
theorem risesB_false {l : List Int} {j : Nat} (h : j + 1 < l.length) (hle : l[j + 1] ≤ l[j]) : risesB l = false := by
  unfold risesB
  rw [List.all_eq_false]
  refine ⟨j, by simp; omega, ?_⟩
  simp [List.getD_eq_getElem?_getD, List.getElem?_eq_getElem h, List.getElem?_eq_getElem (show j < l.length by omega)]
  omega
theorem risesB_true {l : List Int} (h : ∀ i, i + 1 < l.length → l.getD i 0 < l.getD (i + 1) 0) : risesB l = true := by
  unfold risesB
  rw [List.all_eq_true]
  intro i hi
  simp at hi
  exact decide_eq_true (h i (by omega))
def callOk (c : CallD) (ev : Int) : Bool :=
  if c.kind < 1 then false else if 8 < c.kind then false else if c.key.toList.isEmpty = true then false else if 32 < (c.key.size : Int) then false
  else if c.kind ≤ 4 then !c.got && decide (c.vals.length = 0) && (decide (c.kind ≠ 4) || decide (-1048576 ≤ c.arg ∧ c.arg ≤ 1048576))
  else if c.arg ≠ 0 then false else if (!c.got == (ev == 1)) = true then false
  else if (!c.got) = true then decide (c.vals.length = 0)
  else if (c.vals.length : Int) < (shapeF c.kind).1 then false else if (shapeF c.kind).2 < (c.vals.length : Int) then false
  else if c.kind = 7 then risesB c.vals else true

set_option maxHeartbeats 1000000 in
set_option maxRecDepth 100000 in
theorem sound_calls (x : CallD) (F : Nat → Prop) (ev : Int) (w : World) (cs : List Value) (hx : Ty.call.K F w cs x) (hF : ∀ b, F b → b < w.heap.size) :
    Calls Try.prog 62 #[.agg cs.toArray, .int .i64 ev] w fun e w' => e = .returned (.bool (callOk x ev)) ∧ Below w.heap.size w w' := by
  obtain ⟨k, key, arg, got, vals⟩ := x
  obtain ⟨A, c, rfl, hv⟩ := hx
  dsimp only at hv ⊢
  have HV := hide hv
  clear hv
  go_enter Try.func62, Try.ntmps62
  go_wp2_with (go_at_call 69; refine (shape_calls _ _).mono ?_; rintro e w' ⟨rfl, rfl⟩)
  any_goals (go_ret; exact ⟨ret_bool (by grind [callOk]), (Below.refl _ _).alloc (Nat.le_refl _) _⟩)
  have hlen := HV.out.len_le (by decide)
  obtain rfl : arg = 0 := by assumption
  obtain rfl : got = true := by simpa using (by assumption : (!got) = false)
  go_loopw [7] (fun i wr => ∃ j : Nat, (j < vals.length ∨ j = 0) ∧ i = .int .i64 (j + 1) ∧ Hid (k = 7 → ∀ i, i < j → vals.getD i 0 < vals.getD (i + 1) 0) ∧ Hid (∃ n, wr = World.drewN (w.alloc (.cells #[.int .i64 k, .string key, .int .i64 0, .bool true, .slice A vals.length c] 67)) n)) (fun i _ => vals.length - (intOf i).toNat)
  case atStart => exact ⟨0, .inr rfl, rfl, fun _ i hi => absurd hi (by omega), 0, rfl⟩
  case round =>
    obtain ⟨j, hj, rfl, hr, hw⟩ := hrel
    obtain ⟨n, rfl⟩ := hw.out
    clear hw
    by_cases h7 : k = 7
    · subst h7
      by_cases hlt : j + 1 < vals.length
      · obtain ⟨b, o, rfl, hFb, hc0⟩ := HV.out.int_at j (by omega)
        obtain ⟨b', o', hA', -, hc1⟩ := HV.out.int_at (j + 1) hlt
        obtain ⟨rfl, rfl⟩ : b' = b ∧ o' = o := by simpa using hA'.symm
        have hbb := hF _ hFb
        clear hA'
        go_wp2
        go_quiet (fail)
        go_wp2
        · have hle : vals[j + 1] ≤ vals[j] := by assumption
          have hR := hide (risesB_false hlt hle)
          go_ret
          exact ⟨ret_bool (by have := hR.out; grind [callOk]), (by repeat (first | exact Below.refl _ _ | apply below_drewN | apply Below.drew | (refine Below.alloc ?_ (by simp) _) | (refine Below.setCell ?_ (by simp) _)))⟩
        · have hle : vals[j] < vals[j + 1] := by assumption
          refine ⟨?_, ?measure⟩
          repeat apply Exists.intro
          refine ⟨?rel, rfl⟩
          case rel => exact ⟨j + 1, .inl hlt, by go_num, fun h7 i hi => (by
            rcases Nat.lt_or_ge i j with hij | hij
            · exact hr.out h7 i hij
            · obtain rfl : i = j := by omega
              simpa [List.getD_eq_getElem?_getD, List.getElem?_eq_getElem hlt, List.getElem?_eq_getElem (show i < vals.length by omega)] using hle), _, rfl⟩
          case measure => simp [intOf]; omega
      · have hR : Hid (risesB vals = true) := risesB_true fun i hi => hr.out rfl i (by omega)
        go_wp2
        go_ret
        exact ⟨ret_bool (by have := hR.out; grind [callOk]), (by repeat (first | exact Below.refl _ _ | apply below_drewN | apply Below.drew | (refine Below.alloc ?_ (by simp) _) | (refine Below.setCell ?_ (by simp) _)))⟩
    · go_wp2
      go_ret
      exact ⟨ret_bool (by grind [callOk]), (by repeat (first | exact Below.refl _ _ | apply below_drewN | apply Below.drew | (refine Below.alloc ?_ (by simp) _) | (refine Below.setCell ?_ (by simp) _)))⟩
end Go.Proofs.Ytjjmedgibcffhaa
namespace Go.Proofs.Ytjjmedgibcffhaa
open Go.RowKit
set_option linter.unusedSimpArgs false

set_option maxHeartbeats 400000 in
theorem check1_calls (x : CallD) (F : Nat → Prop) (ev : Int) (w : World) (cs : List Value) (B : Nat) (hx : Ty.call.K F w cs x) (hF : ∀ b, F b → b < w.heap.size) (hB : w.cell? ⟨B, 1, none⟩ = some (.int .i64 ev)) :
    Calls Try.prog 61 #[.agg cs.toArray, .pointer (some ⟨B, 0, none⟩)] w fun e w' => e = .returned (.bool (!callOk x ev)) ∧ Below w.heap.size w w' := by
  have hx' := hide hx
  obtain ⟨A, c, rfl, -⟩ := hx
  have hBl := World.block_lt_of_cell? w _ hB
  have hS := fun cs' (h : Ty.call.K F w cs' x) (o : Obj) => sound_calls x F ev (w.alloc o) cs' (Ty.call.mono h (fun b hb => Below.heap_alloc _ _ _ (hF b hb))) (fun b hb => by have := hF b hb; simp; omega)
  have HS := hide hS
  clear hS
  have HF := hide hF
  clear hF
  go_enter Try.func61, Try.ntmps61
  go_wp2_with (go_at_call 62; refine (HS.out _ hx'.out _).mono ?_; rintro e w' ⟨rfl, hb⟩)
  go_ret
  exact ⟨rfl, ((Below.refl _ _).alloc (Nat.le_refl _) _).trans (hb.mono (by simp))⟩

def idxOf {α : Type} (p : α → Bool) (l : List α) : Int := if (l.findIdx p) < l.length then l.findIdx p else -1
theorem idxOf_hit {α : Type} {p : α → Bool} {l : List α} {j : Nat} (h : j < l.length) (hp : p l[j] = true) (hn : ∀ i (hi : i < j), p (l[i]'(by omega)) = false) : idxOf p l = j := by
  have h1 : l.findIdx p = j := by
    rw [List.findIdx_eq h]
    exact ⟨hp, hn⟩
  unfold idxOf
  rw [h1, if_pos h]
theorem idxOf_none {α : Type} {p : α → Bool} {l : List α} (h : ∀ i (hi : i < l.length), p l[i] = false) : idxOf p l = -1 := by
  unfold idxOf
  rw [if_neg]
  intro hlt
  have := List.findIdx_getElem (p := p) (w := hlt)
  rw [h] at this
  cases this
theorem idxOf_ge {α : Type} (p : α → Bool) (l : List α) : decide (0 ≤ idxOf p l) = l.any p := by
  rw [Bool.eq_iff_iff]
  simp only [decide_eq_true_eq, List.any_eq_true]
  unfold idxOf
  constructor
  · intro h
    split at h
    · rename_i hlt
      exact ⟨l[l.findIdx p], by simp, List.findIdx_getElem⟩
    · omega
  · rintro ⟨x, hx, hp⟩
    rw [if_pos (List.findIdx_lt_length_of_exists ⟨x, hx, hp⟩)]
    omega

set_option maxHeartbeats 400000 in
theorem idx68_calls (xs : List CallD) (F : Nat → Prop) (ev : Int) (w : World) (A : Option Addr) (c B : Nat) (hx : Ty.call.Sl F w A xs) (hF : ∀ b, F b → b < w.heap.size) (hB : w.cell? ⟨B, 1, none⟩ = some (.int .i64 ev)) :
    Calls Try.prog 68 #[.slice A xs.length c, .func (.func 61) #[] #[.pointer (some ⟨B, 0, none⟩)]] w fun e w' => e = .returned (.int .i64 (idxOf (fun x => !callOk x ev) xs)) ∧ Below w.heap.size w w' := by
  have HX := hide hx
  clear hx
  have HF := hide hF
  clear hF
  have HB := hide hB
  clear hB
  have hlen := HX.out.len_le (by decide)
  go_enter Try.func68, Try.ntmps68
  go_wp2
  go_loopw [8] (fun i wr => ∃ j : Nat, j ≤ xs.length ∧ i = .int .i64 j ∧ Hid (∀ i (hi : i < xs.length), i < j → callOk xs[i] ev = true) ∧ Hid (Below w.heap.size w wr)) (fun i _ => xs.length - (intOf i).toNat)
  case atStart => exact ⟨0, by omega, rfl, fun i _ hi => absurd hi (by omega), Below.refl _ _⟩
  case round =>
    obtain ⟨j, hj, rfl, hr, hb⟩ := hrel
    by_cases hlt : j < xs.length
    · obtain ⟨b, o, A', c', rfl, hFb, hv, hc0, hc1, hc2, hc3, hc4⟩ := (HX.out.mono (w' := wr) (fun b hb' => hb.out.block b (HF.out b hb'))).call_at j hlt
      have HV := hide hv
      clear hv
      go_wp2_with (go_at_call 61; refine (check1_calls xs[j] F ev _ _ B ⟨A', c', rfl, HV.out⟩ (fun b hb' => Nat.lt_of_lt_of_le (HF.out b hb') hb.out.size) ((hb.out.cell (World.block_lt_of_cell? w _ HB.out)).trans HB.out)).mono ?_; rintro e w' ⟨rfl, hb1⟩)
      · have hp : (!callOk xs[j] ev) = true := by assumption
        go_ret
        exact ⟨ret_int (idxOf_hit hlt hp fun i hi => by rw [hr.out i (by omega) hi]; rfl).symm, hb.out.trans (hb1.mono hb.out.size)⟩
      · have hp : (!callOk xs[j] ev) = false := by assumption
        refine ⟨⟨j + 1, by omega, by go_num, fun i h1 h2 => ?_, hb.out.trans (hb1.mono hb.out.size)⟩, by simp [intOf]; omega⟩
        rcases Nat.lt_or_ge i j with hij | hij
        · exact hr.out i h1 hij
        · obtain rfl : i = j := by omega
          simpa using hp
    · go_wp2
      go_ret
      exact ⟨ret_int (idxOf_none fun i hi => by rw [hr.out i hi (by omega)]; rfl).symm, hb.out⟩

set_option maxHeartbeats 400000 in
theorem contains60_calls (xs : List CallD) (F : Nat → Prop) (ev : Int) (w : World) (A : Option Addr) (c B : Nat) (hx : Ty.call.Sl F w A xs) (hF : ∀ b, F b → b < w.heap.size) (hB : w.cell? ⟨B, 1, none⟩ = some (.int .i64 ev)) :
    Calls Try.prog 60 #[.slice A xs.length c, .func (.func 61) #[] #[.pointer (some ⟨B, 0, none⟩)]] w fun e w' => e = .returned (.bool (xs.any fun x => !callOk x ev)) ∧ Below w.heap.size w w' := by
  have H := hide (idx68_calls xs F ev w A c B hx hF hB)
  clear hx hF hB
  go_enter Try.func60, Try.ntmps60
  go_wp2_with (go_at_call 68; refine H.out.mono ?_; rintro e w' ⟨rfl, hb⟩)
  go_ret
  exact ⟨ret_bool (idxOf_ge _ _), hb⟩

def eventOk (e : EventD) : Bool := decide (0 ≤ e.kind) && decide (e.kind ≤ 3) && decide (e.calls.length ≤ 16) && e.calls.all fun x => callOk x e.kind
def errnoOf (b : Bool) : Int := if b then 0 else 1
def listOk (l : List EventD) : Bool := decide (l.length ≤ 256) && l.all eventOk

theorem listOk_long {l : List EventD} (h : 256 < l.length) : errnoOf (listOk l) = 1 := by
  unfold errnoOf listOk
  rw [if_neg (by simp; omega)]
theorem listOk_bad {l : List EventD} (j : Nat) (h : j < l.length) (hb : eventOk l[j] = false) : errnoOf (listOk l) = 1 := by
  unfold errnoOf listOk
  rw [if_neg]
  simp only [Bool.and_eq_true, List.all_eq_true, not_and]
  intro _ ha
  have := ha l[j] (by simp)
  rw [hb] at this
  cases this
theorem listOk_good {l : List EventD} (h : l.length ≤ 256) (hb : ∀ i (hi : i < l.length), eventOk l[i] = true) : errnoOf (listOk l) = 0 := by
  unfold errnoOf listOk
  rw [if_pos]
  simp only [Bool.and_eq_true, List.all_eq_true, decide_eq_true_eq]
  refine ⟨h, fun x hx => ?_⟩
  obtain ⟨i, hi, rfl⟩ := List.getElem_of_mem hx
  exact hb i hi
theorem any_not {α : Type} {p : α → Bool} (l : List α) : (l.any fun x => !p x) = !l.all p := by
  induction l with
  | nil => rfl
  | cons x l ih => simp [List.any_cons, List.all_cons, ih]

set_option maxHeartbeats 400000 in
theorem check_calls (xs : List EventD) (F : Nat → Prop) (w : World) (A : Option Addr) (c : Nat) (hx : Ty.event.Sl F w A xs) (hF : ∀ b, F b → b < w.heap.size) :
    Calls Try.prog 44 #[.slice A xs.length c] w fun e w' => e = .returned (.int .i64 (errnoOf (listOk xs))) ∧ Below w.heap.size w w' := by
  have HX := hide hx
  clear hx
  have HF := hide hF
  clear hF
  have hlen := HX.out.len_le (by decide)
  by_cases hl : 256 < xs.length
  · go_enter Try.func44, Try.ntmps44
    go_wp2
    go_ret
    exact ⟨ret_int (listOk_long hl).symm, Below.refl _ _⟩
  · go_enter Try.func44, Try.ntmps44
    go_wp2
    go_loopw [10] (fun i wr => ∃ j : Nat, j ≤ xs.length ∧ i = .int .i64 j ∧ Hid (∀ i (hi : i < xs.length), i < j → eventOk xs[i] = true) ∧ Hid (Below w.heap.size w wr)) (fun i _ => xs.length - (intOf i).toNat)
    case atStart => exact ⟨0, by omega, rfl, fun i _ hi => absurd hi (by omega), Below.refl _ _⟩
    case round =>
      obtain ⟨j, hj, rfl, hr, hb⟩ := hrel
      have hb := hb.out
      have hsz := hb.size
      by_cases hlt : j < xs.length
      · obtain ⟨b, o, A', c', rfl, hFb, hv, hc0, hc1, hc2⟩ := (HX.out.mono (w' := wr) (fun b hb' => hb.block b (HF.out b hb'))).event_at j hlt
        have HV := hide hv
        clear hv
        go_wp2_with (go_at_call 60; refine (contains60_calls xs[j].calls F xs[j].kind _ _ _ _ (HV.out.mono (SameOn.of_below (by refine (Below.refl _ _).alloc (Nat.le_refl _) _) fun b hb' => Nat.lt_of_lt_of_le (HF.out b hb') hb.size)) (fun b hb' => by have := HF.out b hb'; simp; omega) (by go_simp)).mono ?_; rintro e w' ⟨rfl, hb1⟩)
        any_goals (go_ret; exact ⟨ret_int (listOk_bad j hlt (by grind [eventOk])).symm, (show Below _ _ _ by repeat (first | assumption | (with_reducible exact Below.refl _ _) | (with_reducible apply below_drewN) | (with_reducible apply Below.drew) | (with_reducible refine Below.alloc2_ ?_ (by first | assumption | exact Nat.le_refl _ | omega | (simp; done) | (simp; omega)) _) | (with_reducible refine Below.setCell ?_ (by first | assumption | exact Nat.le_refl _ | omega | (simp; done) | (simp; omega)) _) | (with_reducible refine Below.then2_ ?_ (by assumption) (by first | assumption | exact Nat.le_refl _ | omega | (simp; done) | (simp; omega))) | exact Below.drew (by assumption) | exact Below.drew (Below.refl _ _)))⟩)
        have hp : (xs[j].calls.any fun x => !callOk x xs[j].kind) = false := by assumption
        rw [any_not] at hp
        refine ⟨⟨j + 1, by omega, by go_num, fun i h1 h2 => ?_, (show Below _ _ _ by repeat (first | assumption | (with_reducible exact Below.refl _ _) | (with_reducible apply below_drewN) | (with_reducible apply Below.drew) | (with_reducible refine Below.alloc2_ ?_ (by first | assumption | exact Nat.le_refl _ | omega | (simp; done) | (simp; omega)) _) | (with_reducible refine Below.setCell ?_ (by first | assumption | exact Nat.le_refl _ | omega | (simp; done) | (simp; omega)) _) | (with_reducible refine Below.then2_ ?_ (by assumption) (by first | assumption | exact Nat.le_refl _ | omega | (simp; done) | (simp; omega))) | exact Below.drew (by assumption) | exact Below.drew (Below.refl _ _)))⟩, by simp [intOf]; omega⟩
        rcases Nat.lt_or_ge i j with hij | hij
        · exact hr.out i h1 hij
        · obtain rfl : i = j := by omega
          grind [eventOk]
      · go_wp2
        go_ret
        exact ⟨ret_int (listOk_good (by omega) fun i hi => hr.out i hi (by omega)).symm, hb⟩
end Go.Proofs.Ytjjmedgibcffhaa
