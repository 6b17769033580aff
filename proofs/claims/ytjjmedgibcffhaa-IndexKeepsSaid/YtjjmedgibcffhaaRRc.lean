/- ref03.call, sound, Check, walked: the same as wire's. -/
import Derived.Test.YtjjmedgibcffhaaRKa
import Derived.Test.YtjjmedgibcffhaaRWi
namespace Go.Proofs.Ytjjmedgibcffhaa
open Go.RowKit
set_option linter.unusedSimpArgs false
set_option linter.unusedVariables false

theorem toList_loop_len (bs : ByteArray) : ∀ (n i : Nat) (r : List UInt8), bs.size - i = n → (ByteArray.toList.loop bs i r).length = r.length + n := by
  intro n
  induction n with
  | zero =>
    intro i r h
    unfold ByteArray.toList.loop
    rw [if_neg (by omega)]
    simp
  | succ n ih =>
    intro i r h
    unfold ByteArray.toList.loop
    rw [if_pos (by omega), ih (i + 1) _ (by omega)]
    simp
    omega
theorem toList_len (bs : ByteArray) : bs.toList.length = bs.size := by
  unfold ByteArray.toList
  rw [toList_loop_len bs bs.size 0 [] (by omega)]
  simp
theorem key_empty (bs : ByteArray) : bs.toList.isEmpty = decide (bs.size < 1) := by
  rw [Bool.eq_iff_iff, List.isEmpty_iff, ← List.length_eq_zero_iff, toList_len, decide_eq_true_eq]
  omega
/-- callOk, as the reference spells it. -/
theorem callOk_ref (k : Int) (key : ByteArray) (arg : Int) (got : Bool) (vals : List Int) (ev : Int) :
    callOk ⟨k, key, arg, got, vals⟩ ev = if k < 1 ∨ 8 < k ∨ key.size < 1 ∨ 32 < key.size then false
      else if k ≤ 4 then !got && decide (vals.length = 0) && (decide (k ≠ 4) || (decide (-1048576 ≤ arg) && decide (arg ≤ 1048576)))
      else if arg ≠ 0 ∨ got ≠ (ev == 1) ∨ (got = false ∧ 0 < vals.length) then false
      else if k = 5 then decide (vals.length ≤ 1)
      else if k = 8 then !got || decide (vals.length = 1)
      else if k = 7 then risesB vals && decide (vals.length ≤ 64)
      else decide (vals.length ≤ 64) := by
  unfold callOk
  simp only [key_empty, Bool.decide_and]
  have hr : vals.length = 0 → risesB vals = true := fun h => risesB_true fun i hi => by omega
  generalize risesB vals = R at hr ⊢
  generalize vals.length = n at hr ⊢
  generalize key.size = m
  generalize (ev == 1) = E
  by_cases h1 : k < 1
  · simp [h1]
  by_cases h2 : 8 < k
  · simp [h1, h2]
  by_cases h3 : k ≤ 4
  · cases got <;> grind
  have h6 : shapeF k = if k = 5 then (0, 1) else if k = 8 then (1, 1) else (0, 64) := rfl
  by_cases h5 : k = 5
  · subst h5; rw [h6]; cases got <;> cases E <;> grind
  by_cases h8 : k = 8
  · subst h8; rw [h6]; cases got <;> cases E <;> grind
  rw [h6, if_neg h5, if_neg h8]
  by_cases h7 : k = 7
  · subst h7; cases got <;> cases E <;> cases R <;> grind
  cases got <;> cases E <;> grind

set_option maxHeartbeats 4000000 in
set_option maxRecDepth 100000 in
theorem refcall_calls (x : CallD) (F : Nat → Prop) (ev : Int) (w : World) (cs : List Value) (hx : Ty.call.K F w cs x) (hF : ∀ b, F b → b < w.heap.size) :
    Calls Try.prog 70 #[.agg cs.toArray, .int .i64 ev] w fun e w' => e = .returned (.bool (callOk x ev)) ∧ Below w.heap.size w w' := by
  obtain ⟨k, key, arg, got, vals⟩ := x
  obtain ⟨A, c, rfl, hv⟩ := hx
  dsimp only at hv ⊢
  have HV := hide hv
  clear hv
  go_enter Try.func70, Try.ntmps70
  go_wp2
  any_goals (go_ret; exact ⟨ret_bool (by rw [callOk_ref]; grind), (Below.refl _ _).alloc (Nat.le_refl _) _⟩)
  all_goals (
    obtain rfl : k = 7 := by simpa using (by assumption : (k == 7) = true)
    obtain rfl : arg = 0 := by assumption
    rename got = (ev == 1) => hgot
    have HG := hide hgot
    clear hgot
    have hlen := HV.out.len_le (by decide)
    have hemp : Hid (got = false → vals.length = 0) := by
      intro hg
      have := HG.out
      rw [hg] at this
      first | omega | (exfalso; simp_all)
    go_loopw [5] (fun i wr => ∃ j : Nat, (j < vals.length ∨ j = 0) ∧ i = .int .i64 (j + 1) ∧ Hid (∀ i, i < j → vals.getD i 0 < vals.getD (i + 1) 0) ∧ Hid (∃ n g, wr = World.drewN (w.alloc (.cells #[.int .i64 7, .string key, .int .i64 0, .bool g, .slice A vals.length c] 67)) n)) (fun i _ => vals.length - (intOf i).toNat)
    case atStart => exact ⟨0, .inr rfl, rfl, fun i hi => absurd hi (by omega), 0, _, rfl⟩
    case round =>
      obtain ⟨j, hj, rfl, hr, hw⟩ := hrel
      obtain ⟨n, g, rfl⟩ := hw.out
      clear hw
      by_cases hlt : j + 1 < vals.length
      · first | (exfalso; omega; done) | (
          obtain ⟨b, o, rfl, hFb, hc0⟩ := HV.out.int_at j (by omega)
          obtain ⟨b', o', hA', -, hc1⟩ := HV.out.int_at (j + 1) hlt
          obtain ⟨rfl, rfl⟩ : b' = b ∧ o' = o := by simpa using hA'.symm
          have hbb := hF _ hFb
          clear hA'
          go_wp2
          go_quiet (fail)
          go_wp2
          · have hle : vals[j + 1] ≤ vals[j] := by assumption
            have hR := hide (risesB_false hlt hle)
            go_ret
            exact ⟨ret_bool (by rw [callOk_ref, hR.out]; simp), (show Below _ _ _ by repeat (first | assumption | (with_reducible exact Below.refl _ _) | (with_reducible apply below_drewN) | (with_reducible apply Below.drew) | (with_reducible refine Below.alloc2_ ?_ (by first | assumption | exact Nat.le_refl _ | omega | (simp; done) | (simp; omega)) _) | (with_reducible refine Below.setCell ?_ (by first | assumption | exact Nat.le_refl _ | omega | (simp; done) | (simp; omega)) _) | (with_reducible refine Below.then2_ ?_ (by assumption) (by first | assumption | exact Nat.le_refl _ | omega | (simp; done) | (simp; omega))) | exact Below.drew (by assumption) | exact Below.drew (Below.refl _ _)))⟩
          · have hle : vals[j] < vals[j + 1] := by assumption
            have hnx : Hid (∀ i, i < j + 1 → vals.getD i 0 < vals.getD (i + 1) 0) := by
              intro i hi
              rcases Nat.lt_or_ge i j with hij | hij
              · exact hr.out i hij
              · obtain rfl : i = j := by omega
                simpa [List.getD_eq_getElem?_getD, List.getElem?_eq_getElem hlt, List.getElem?_eq_getElem (show i < vals.length by omega)] using hle
            first | exact ⟨⟨j + 1, .inl hlt, by go_num, hnx, _, _, rfl⟩, by simp [intOf]; omega⟩ | exact ⟨by ((repeat apply Exists.intro); refine ⟨?_, rfl⟩; exact ⟨j + 1, .inl hlt, by go_num, hnx, _, _, rfl⟩), by simp [intOf]; omega⟩)
      · have hR : Hid (risesB vals = true) := risesB_true fun i hi => hr.out i (by omega)
        go_wp2
        go_ret
        exact ⟨ret_bool (by rw [callOk_ref, hR.out]; have h1 := HG.out; have h2 := hemp.out; grind), (show Below _ _ _ by repeat (first | assumption | (with_reducible exact Below.refl _ _) | (with_reducible apply below_drewN) | (with_reducible apply Below.drew) | (with_reducible refine Below.alloc2_ ?_ (by first | assumption | exact Nat.le_refl _ | omega | (simp; done) | (simp; omega)) _) | (with_reducible refine Below.setCell ?_ (by first | assumption | exact Nat.le_refl _ | omega | (simp; done) | (simp; omega)) _) | (with_reducible refine Below.then2_ ?_ (by assumption) (by first | assumption | exact Nat.le_refl _ | omega | (simp; done) | (simp; omega))) | exact Below.drew (by assumption) | exact Below.drew (Below.refl _ _)))⟩)
end Go.Proofs.Ytjjmedgibcffhaa
/- Append, where the world's size is spelled otherwise; small things for later walks. -/
namespace Go.Proofs.Ytjjmedgibcffhaa
open Go.RowKit Go.MapKept
section
variable {P : Program} {ops : Array Oper} {rest : List Oper} {o : Oper} {a : Act} {Q : Exit → Act → World → Prop} {α : Type}
theorem wp_append_at {enc : α → List Value} {sz : Nat} (hsz : ∀ x, (enc x).length = sz) (hone : ∀ x, ∀ u ∈ enc x, u.oneCell' = true) {W : World} (base : Nat) (hgd : o.guard = none) (s x : Operand) (t e : TypeId) (z : Value) (bytes : Nat)
    (ho : o.op = .call { callee := .builtin .append, args := #[s, x], argTypes := #[t, t] })
    (ht : P.underlying t = some (.slice e)) (hinfo : (P.info? e).map (fun i => (i.zero, i.size, i.bytes)) = some (some z, sz, bytes)) (hz : z.cells.size = sz) (hs0 : 0 < sz) (hb0 : 0 < bytes)
    (v : Value) (xs : List α) (y : α) (q : Nat) (hs : a.eval s = v) (hx : a.eval x = .slice (some ⟨q, 0, none⟩) 1 1) (hq : W.heap.size = q)
    (HO : W.ownsRow base e sz v xs.length (xs.flatMap enc)) (hbase : base ≤ W.heap.size) (hl : (xs.length + 1) * bytes ≤ 140737488355328)
    (h : ∀ v1 w1, w1.ownsRow base e sz v1 (xs ++ [y]).length ((xs ++ [y]).flatMap enc) → Keep (fun k => v.ownBlock = some k) W w1 → (v1.ownBlock = v.ownBlock ∨ ∃ b, v1.ownBlock = some b ∧ W.heap.size ≤ b) → W.heap.size < w1.heap.size → wpList P ops Q rest (a.put o.dst v1) w1) :
    wpList P ops Q (o :: rest) a (W.alloc (.cells (enc y).toArray e)) := by
  subst hq
  exact wp_append hsz hone base hgd s x t e z bytes ho ht hinfo hz hs0 hb0 v xs y hs hx HO hbase hl h
end
/-- What a callee that only makes memory leaves of an own row. -/
theorem own_below {w w' : World} {base n : Nat} {e : TypeId} {sz : Nat} {v : Value} {xs : List Value} (h : w.ownsRow base e sz v n xs) (hb : Below w.heap.size w w') : w'.ownsRow base e sz v n xs := own_keep (S := fun _ => False) h (Keep.of_below hb) (fun _ _ => id)
/-! The laws at guarded operations. -/
section
variable {κ : Type} {P : Program} {kt : TypeId} {ops : Array Oper} {rest : List Oper} {o : Oper} {a : Act} {Q : Exit → Act → World → Prop} {w : World}
theorem wp_lookup1_g (K : KeyTy κ P kt) {b : Nat} {f : κ → Option Value} (h : MapAt K w b f) (hw : Region.wanted o (yielded ops a.tmps) = true) (m x : Operand) (t : TypeId) (hop : o.op = Op.lookup t m x false) {et : TypeId} (ht : P.underlying t = some (.map kt et))
    {z : Value} (hz : (zeroValue et).run P w = .ok z w) (k : κ) (hm : a.eval m = .map (some b)) (hx : a.eval x = K.enc k)
    (hK : wpList P ops Q rest (a.put o.dst ((f k).getD z)) w) : wpList P ops Q (o :: rest) a w := by
  refine wpList_step fun K' hK' => ?_
  rw [if_pos hw]
  unfold Oper.wp
  simp [execOp, hop, hm, hx, h.run_lookup1 ht hz k, Result.andThen]
  exact hK' _ _ hK
end
end Go.Proofs.Ytjjmedgibcffhaa
/- ref03.sound, ref03.Check, walked: they tell what wire.Check tells. -/
namespace Go.Proofs.Ytjjmedgibcffhaa
open Go.RowKit
set_option linter.unusedSimpArgs false
set_option linter.unusedVariables false

set_option maxHeartbeats 2000000 in
set_option maxRecDepth 100000 in
theorem refsound_calls (x : EventD) (F : Nat → Prop) (w : World) (cs : List Value) (hx : Ty.event.K F w cs x) (hF : ∀ b, F b → b < w.heap.size) :
    Calls Try.prog 63 #[.agg cs.toArray] w fun e w' => e = .returned (.bool (eventOk x)) ∧ Below w.heap.size w w' := by
  obtain ⟨A, c, rfl, hv⟩ := hx
  have HV := hide hv
  clear hv
  have HF := hide hF
  clear hF
  have hlen := HV.out.len_le (by decide)
  go_enter Try.func63, Try.ntmps63
  go_wp2
  any_goals (go_ret; exact ⟨ret_bool (by grind [eventOk]), (show Below _ _ _ by repeat (first | assumption | (with_reducible exact Below.refl _ _) | (with_reducible apply below_drewN) | (with_reducible apply Below.drew) | (with_reducible refine Below.alloc2_ ?_ (by first | assumption | exact Nat.le_refl _ | omega | (simp; done) | (simp; omega)) _) | (with_reducible refine Below.setCell ?_ (by first | assumption | exact Nat.le_refl _ | omega | (simp; done) | (simp; omega)) _) | (with_reducible refine Below.then2_ ?_ (by assumption) (by first | assumption | exact Nat.le_refl _ | omega | (simp; done) | (simp; omega))) | exact Below.drew (by assumption) | exact Below.drew (Below.refl _ _)))⟩)
  obtain ⟨W, hW⟩ : ∃ W, W = w.alloc (.cells #[.int .i64 x.proc, .int .i64 x.kind, .slice A x.calls.length c] 24) := ⟨_, rfl⟩
  rw [← hW]
  have hbW : Below w.heap.size w W := by rw [hW]; exact (show Below _ _ _ by repeat (first | assumption | (with_reducible exact Below.refl _ _) | (with_reducible apply below_drewN) | (with_reducible apply Below.drew) | (with_reducible refine Below.alloc2_ ?_ (by first | assumption | exact Nat.le_refl _ | omega | (simp; done) | (simp; omega)) _) | (with_reducible refine Below.setCell ?_ (by first | assumption | exact Nat.le_refl _ | omega | (simp; done) | (simp; omega)) _) | (with_reducible refine Below.then2_ ?_ (by assumption) (by first | assumption | exact Nat.le_refl _ | omega | (simp; done) | (simp; omega))) | exact Below.drew (by assumption) | exact Below.drew (Below.refl _ _)))
  have hzW : w.heap.size < W.heap.size := by rw [hW]; simp
  have hW1 : W.cell? ⟨w.heap.size, 1, none⟩ = some (.int .i64 x.kind) := by rw [hW]; simp [go_sem]
  have hW2 : W.cell? ⟨w.heap.size, 2, none⟩ = some (.slice A x.calls.length c) := by rw [hW]; simp [go_sem]
  clear hW
  go_loopw [3] (fun i wr => ∃ j : Nat, j ≤ x.calls.length ∧ i = .int .i64 j ∧ Hid (∀ i (hi : i < x.calls.length), i < j → callOk x.calls[i] x.kind = true) ∧ Hid (Below W.heap.size W wr)) (fun i _ => x.calls.length - (intOf i).toNat)
  case atStart => exact ⟨0, by omega, rfl, fun i _ hi => absurd hi (by omega), Below.refl _ _⟩
  case round =>
    obtain ⟨j, hj, rfl, hr, hb⟩ := hrel
    have hb := hb.out
    have hsz := hb.size
    have hbw : Below w.heap.size w wr := hbW.trans (hb.mono (by omega))
    have hq := (bcell hb).1
    have hw1 := (hq _ 1 hzW).trans hW1
    have hw2 := (hq _ 2 hzW).trans hW2
    clear hq
    have hzr : w.heap.size < wr.heap.size := by omega
    have H1 := hide hW1
    have H2 := hide hW2
    clear hW1 hW2
    by_cases hlt : j < x.calls.length
    · obtain ⟨b, o, A', c', rfl, hFb, hv, hc0, hc1, hc2, hc3, hc4⟩ := (HV.out.mono (w' := wr) (fun b hb' => hbw.block b (HF.out b hb'))).call_at j hlt
      have HV' := hide hv
      clear hv
      have hbb : b < wr.heap.size := by have := HF.out b hFb; omega
      have hj0 : (0 : Int) ≤ (j : Int) := Int.natCast_nonneg _
      have hj1 : (j : Int) < (x.calls.length : Int) := by omega
      have hS : ∀ W', Below wr.heap.size wr W' → W'.cell? ⟨w.heap.size, 1, none⟩ = some (.int .i64 x.kind) ∧ W'.cell? ⟨w.heap.size, 2, none⟩ = some (.slice (some ⟨b, o, none⟩) x.calls.length c) ∧
          W'.cell? ⟨b, o + j * 5, none⟩ = some (.int .i64 x.calls[j].kind) ∧ W'.cell? ⟨b, o + j * 5 + 1, none⟩ = some (.string x.calls[j].key) ∧ W'.cell? ⟨b, o + j * 5 + 2, none⟩ = some (.int .i64 x.calls[j].arg) ∧ W'.cell? ⟨b, o + j * 5 + 3, none⟩ = some (.bool x.calls[j].got) ∧ W'.cell? ⟨b, o + j * 5 + 4, none⟩ = some (.slice A' x.calls[j].vals.length c') ∧ Below wr.heap.size wr W' := by
        intro W' hB
        have hW := (bcell hB).1
        refine ⟨?_, ?_, ?_, ?_, ?_, ?_, ?_, hB⟩ <;> (rw [hW _ _ (by omega)]; assumption)
      have HS := hide hS
      have hS0 := hS wr (Below.refl _ _)
      clear hS
      have hC : ∀ W', Below wr.heap.size wr W' → Calls Try.prog 70 #[.agg #[.int .i64 x.calls[j].kind, .string x.calls[j].key, .int .i64 x.calls[j].arg, .bool x.calls[j].got, .slice A' x.calls[j].vals.length c'], .int .i64 x.kind] W' fun e w2 => e = .returned (.bool (callOk x.calls[j] x.kind)) ∧ Below W'.heap.size W' w2 :=
        fun W' hB => refcall_calls x.calls[j] F x.kind W' _ ⟨A', c', rfl, HV'.out.mono (fun b hb' => hB.block b (by have := HF.out b hb'; omega))⟩ (fun b hb' => by have := HF.out b hb'; have := hB.size; omega)
      have HC := hide hC
      clear hC
      go_wp2
      go_region_held3 (fun W => W.cell? ⟨w.heap.size, 1, none⟩ = some (.int .i64 x.kind) ∧ W.cell? ⟨w.heap.size, 2, none⟩ = some (.slice (some ⟨b, o, none⟩) x.calls.length c) ∧
          W.cell? ⟨b, o + j * 5, none⟩ = some (.int .i64 x.calls[j].kind) ∧ W.cell? ⟨b, o + j * 5 + 1, none⟩ = some (.string x.calls[j].key) ∧ W.cell? ⟨b, o + j * 5 + 2, none⟩ = some (.int .i64 x.calls[j].arg) ∧ W.cell? ⟨b, o + j * 5 + 3, none⟩ = some (.bool x.calls[j].got) ∧ W.cell? ⟨b, o + j * 5 + 4, none⟩ = some (.slice A' x.calls[j].vals.length c') ∧ Below wr.heap.size wr W)
        (first | exact HS.out _ (Below.drew (Below.refl _ _)) | (go_split_ands; exact HS.out _ (show Below _ _ _ by repeat (first | assumption | (with_reducible exact Below.refl _ _) | (with_reducible apply below_drewN) | (with_reducible apply Below.drew) | (with_reducible refine Below.alloc2_ ?_ (by first | assumption | exact Nat.le_refl _ | omega | (simp; done) | (simp; omega)) _) | (with_reducible refine Below.setCell ?_ (by first | assumption | exact Nat.le_refl _ | omega | (simp; done) | (simp; omega)) _) | (with_reducible refine Below.then2_ ?_ (by assumption) (by first | assumption | exact Nat.le_refl _ | omega | (simp; done) | (simp; omega))) | exact Below.drew (by assumption) | exact Below.drew (Below.refl _ _)))))
        ((go_at_call 70; go_split_ands; (with_reducible refine (HC.out _ (by assumption)).mono ?_); rintro e w3 ⟨rfl, hb3⟩))
      go_wp2
      · have hp : callOk x.calls[j] x.kind = false := by first | assumption | simpa using (by assumption : (!callOk x.calls[j] x.kind) = true)
        go_ret
        exact ⟨ret_bool (by
          have hall : (x.calls.all fun y => callOk y x.kind) = false := by
            rw [List.all_eq_false]
            exact ⟨_, List.getElem_mem hlt, by rw [hp]; simp⟩
          grind [eventOk]), by go_split_ands; exact hbw.trans (Below.mono (by assumption) (by omega))⟩
      · have hp : callOk x.calls[j] x.kind = true := by first | assumption | simpa using (by assumption : (!callOk x.calls[j] x.kind) = false)
        have hn : Hid (∀ i (hi : i < x.calls.length), i < j + 1 → callOk x.calls[i] x.kind = true) := by
          intro i h1 h2
          rcases Nat.lt_or_ge i j with hij | hij
          · exact hr.out i h1 hij
          · obtain rfl : i = j := by omega
            exact hp
        first | exact ⟨⟨j + 1, by omega, by go_num, hn, by go_split_ands; exact hb.trans (Below.mono (by assumption) (by omega))⟩, by simp [intOf]; omega⟩ | exact ⟨by ((repeat apply Exists.intro); refine ⟨?_, rfl⟩; exact ⟨j + 1, by omega, by go_num, hn, by go_split_ands; exact hb.trans (Below.mono (by assumption) (by omega))⟩), by simp [intOf]; omega⟩
    · obtain rfl : j = x.calls.length := by omega
      go_wp2
      go_ret
      exact ⟨ret_bool (by
        have hall : (x.calls.all fun y => callOk y x.kind) = true := by
          rw [List.all_eq_true]
          intro y hy
          obtain ⟨i, hi, rfl⟩ := List.getElem_of_mem hy
          exact hr.out i hi hi
        grind [eventOk]), (show Below _ _ _ by repeat (first | assumption | (with_reducible exact Below.refl _ _) | (with_reducible apply below_drewN) | (with_reducible apply Below.drew) | (with_reducible refine Below.alloc2_ ?_ (by first | assumption | exact Nat.le_refl _ | omega | (simp; done) | (simp; omega)) _) | (with_reducible refine Below.setCell ?_ (by first | assumption | exact Nat.le_refl _ | omega | (simp; done) | (simp; omega)) _) | (with_reducible refine Below.then2_ ?_ (by assumption) (by first | assumption | exact Nat.le_refl _ | omega | (simp; done) | (simp; omega))) | exact Below.drew (by assumption) | exact Below.drew (Below.refl _ _)))⟩

set_option maxHeartbeats 1000000 in
theorem refcheck_calls (xs : List EventD) (F : Nat → Prop) (w : World) (A : Option Addr) (c : Nat) (hx : Ty.event.Sl F w A xs) (hF : ∀ b, F b → b < w.heap.size) :
    Calls Try.prog 45 #[.slice A xs.length c] w fun e w' => e = .returned (.int .i64 (errnoOf (listOk xs))) ∧ Below w.heap.size w w' := by
  have HX := hide hx
  clear hx
  have HF := hide hF
  clear hF
  have hlen := HX.out.len_le (by decide)
  by_cases hl : 256 < xs.length
  · go_enter Try.func45, Try.ntmps45
    go_wp2
    go_ret
    exact ⟨ret_int (listOk_long hl).symm, Below.refl _ _⟩
  · go_enter Try.func45, Try.ntmps45
    go_wp2
    go_loopw [3] (fun i wr => ∃ j : Nat, j ≤ xs.length ∧ i = .int .i64 j ∧ Hid (∀ i (hi : i < xs.length), i < j → eventOk xs[i] = true) ∧ Hid (Below w.heap.size w wr)) (fun i _ => xs.length - (intOf i).toNat)
    case atStart => exact ⟨0, by omega, rfl, fun i _ hi => absurd hi (by omega), Below.refl _ _⟩
    case round =>
      obtain ⟨j, hj, rfl, hr, hb⟩ := hrel
      have hb := hb.out
      have hsz := hb.size
      by_cases hlt : j < xs.length
      · obtain ⟨b, o, A', c', rfl, hFb, hv, hc0, hc1, hc2⟩ := (HX.out.mono (w' := wr) (fun b hb' => hb.block b (HF.out b hb'))).event_at j hlt
        have HV := hide hv
        clear hv
        have hbb : b < wr.heap.size := by have := HF.out b hFb; omega
        go_wp2_with (go_at_call 63; refine (refsound_calls xs[j] F _ _ ⟨A', c', rfl, HV.out⟩ (fun b hb' => by have := HF.out b hb'; omega)).mono ?_; rintro e w3 ⟨rfl, hb3⟩)
        · have hp : eventOk xs[j] = false := by first | assumption | simpa using (by assumption : (!eventOk xs[j]) = true)
          go_ret
          exact ⟨ret_int (listOk_bad j hlt hp).symm, (show Below _ _ _ by repeat (first | assumption | (with_reducible exact Below.refl _ _) | (with_reducible apply below_drewN) | (with_reducible apply Below.drew) | (with_reducible refine Below.alloc2_ ?_ (by first | assumption | exact Nat.le_refl _ | omega | (simp; done) | (simp; omega)) _) | (with_reducible refine Below.setCell ?_ (by first | assumption | exact Nat.le_refl _ | omega | (simp; done) | (simp; omega)) _) | (with_reducible refine Below.then2_ ?_ (by assumption) (by first | assumption | exact Nat.le_refl _ | omega | (simp; done) | (simp; omega))) | exact Below.drew (by assumption) | exact Below.drew (Below.refl _ _)))⟩
        · have hp : eventOk xs[j] = true := by first | assumption | simpa using (by assumption : (!eventOk xs[j]) = false)
          have hn : Hid (∀ i (hi : i < xs.length), i < j + 1 → eventOk xs[i] = true) := by
            intro i h1 h2
            rcases Nat.lt_or_ge i j with hij | hij
            · exact hr.out i h1 hij
            · obtain rfl : i = j := by omega
              exact hp
          first | exact ⟨⟨j + 1, by omega, by go_num, hn, (show Below _ _ _ by repeat (first | assumption | (with_reducible exact Below.refl _ _) | (with_reducible apply below_drewN) | (with_reducible apply Below.drew) | (with_reducible refine Below.alloc2_ ?_ (by first | assumption | exact Nat.le_refl _ | omega | (simp; done) | (simp; omega)) _) | (with_reducible refine Below.setCell ?_ (by first | assumption | exact Nat.le_refl _ | omega | (simp; done) | (simp; omega)) _) | (with_reducible refine Below.then2_ ?_ (by assumption) (by first | assumption | exact Nat.le_refl _ | omega | (simp; done) | (simp; omega))) | exact Below.drew (by assumption) | exact Below.drew (Below.refl _ _)))⟩, by simp [intOf]; omega⟩ | exact ⟨by ((repeat apply Exists.intro); refine ⟨?_, rfl⟩; exact ⟨j + 1, by omega, by go_num, hn, (show Below _ _ _ by repeat (first | assumption | (with_reducible exact Below.refl _ _) | (with_reducible apply below_drewN) | (with_reducible apply Below.drew) | (with_reducible refine Below.alloc2_ ?_ (by first | assumption | exact Nat.le_refl _ | omega | (simp; done) | (simp; omega)) _) | (with_reducible refine Below.setCell ?_ (by first | assumption | exact Nat.le_refl _ | omega | (simp; done) | (simp; omega)) _) | (with_reducible refine Below.then2_ ?_ (by assumption) (by first | assumption | exact Nat.le_refl _ | omega | (simp; done) | (simp; omega))) | exact Below.drew (by assumption) | exact Below.drew (Below.refl _ _)))⟩), by simp [intOf]; omega⟩
      · go_wp2
        go_ret
        exact ⟨ret_int (listOk_good (by omega) fun i hi => hr.out i hi (by omega)).symm, hb⟩
end Go.Proofs.Ytjjmedgibcffhaa
