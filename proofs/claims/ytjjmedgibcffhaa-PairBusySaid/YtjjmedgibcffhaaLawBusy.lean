/- assizelaw04.PairBusy, walked. -/
import Derived.Test.YtjjmedgibcffhaaBusy
namespace Go.Proofs.Ytjjmedgibcffhaa
open Go.RowKit Go.MapKept
set_option linter.unusedSimpArgs false
set_option linter.unusedVariables false

theorem busyOf_append (xs : List EventD) (ps qs : List PairD) : busyOf xs (ps ++ qs) = busyOf xs ps ++ busyOf xs qs := by
  simp [busyOf]
theorem busyOf_get (xs : List EventD) (ps : List PairD) (j : Nat) (hj : j < ps.length) (ht : ps[j].to_ < 0) (f : Nat) (hf : ps[j].from_ = f) (hfx : f < xs.length) :
    (busyOf xs (ps.take j)).length < (busyOf xs ps).length ∧ (busyOf xs ps)[(busyOf xs (ps.take j)).length]? = some xs[f].proc := by
  have h1 : busyOf xs ps = busyOf xs (ps.take j) ++ ([((xs[ps[j].from_]?).map (·.proc)).getD 0] ++ busyOf xs (ps.drop (j + 1))) := by
    have h2 : ps = ps.take j ++ ([ps[j]] ++ ps.drop (j + 1)) := by simp
    calc busyOf xs ps = busyOf xs (ps.take j ++ ([ps[j]] ++ ps.drop (j + 1))) := by rw [← h2]
      _ = _ := by
        rw [busyOf_append, busyOf_append]
        congr 2
        simp [busyOf, ht]
  have h3 : ((xs[ps[j].from_]?).map (·.proc)).getD 0 = xs[f].proc := by
    rw [hf, List.getElem?_eq_getElem hfx]
    rfl
  rw [h3] at h1
  constructor
  · rw [h1]; simp
  · have : (busyOf xs (ps.take j) ++ ([xs[f].proc] ++ busyOf xs (ps.drop (j + 1))))[(busyOf xs (ps.take j)).length]? = some xs[f].proc := by simp
    rw [← h1] at this
    exact this

set_option maxHeartbeats 1000000 in
set_option maxRecDepth 100000 in
theorem lawBusy_calls (xs : List EventD) (F : Nat → Prop) (w : World) (A : Option Addr) (c : Nat) (hx : Ty.event.Sl F w A xs) (hF : ∀ b, F b → b < w.heap.size) :
    Calls Try.prog 8 #[.slice A xs.length c] w fun e w' => e = .returned (.bool true) ∧ Below w.heap.size w w' := by
  have HX := hide hx
  clear hx
  have HF := hide hF
  clear hF
  have hlen := HX.out.len_le (by decide)
  go_enter Try.func8, Try.ntmps8
  go_wp2_with fail
  go_at_call 16
  refine (alive4_calls _).mono ?_
  rintro e w1 ⟨rfl, hb1⟩
  have hz1 := hb1.size
  go_wp2_with fail
  go_at_call 19
  refine (pairs_res xs F _ _ _ (HX.out.mono (SameOn.of_below (show Below _ _ _ by repeat (first | assumption | (with_reducible exact Below.refl _ _) | (with_reducible apply below_drewN) | (with_reducible apply Below.drew) | (with_reducible refine Below.alloc2_ ?_ (by first | assumption | exact Nat.le_refl _ | omega | (simp; done) | (simp; omega)) _) | (with_reducible refine Below.setCell ?_ (by first | assumption | exact Nat.le_refl _ | omega | (simp; done) | (simp; omega)) _) | (with_reducible refine Below.then2_ ?_ (by assumption) (by first | assumption | exact Nat.le_refl _ | omega | (simp; done) | (simp; omega))) | exact Below.drew (by assumption) | exact Below.drew (Below.refl _ _))) HF.out)) (fun b hb => by have := HF.out b hb; omega)).mono ?_
  rintro e w2 ⟨A2, c2, rfl, hs2, hb2⟩
  have hz2 := hb2.size
  have HS2 := hide hs2
  clear hs2
  go_wp2_with fail
  go_at_call 22
  refine (busy_calls xs F _ _ _ (HX.out.mono (SameOn.of_below (show Below _ _ _ by repeat (first | assumption | (with_reducible exact Below.refl _ _) | (with_reducible apply below_drewN) | (with_reducible apply Below.drew) | (with_reducible refine Below.alloc2_ ?_ (by first | assumption | exact Nat.le_refl _ | omega | (simp; done) | (simp; omega)) _) | (with_reducible refine Below.setCell ?_ (by first | assumption | exact Nat.le_refl _ | omega | (simp; done) | (simp; omega)) _) | (with_reducible refine Below.then2_ ?_ (by assumption) (by first | assumption | exact Nat.le_refl _ | omega | (simp; done) | (simp; omega))) | exact Below.drew (by assumption) | exact Below.drew (Below.refl _ _))) HF.out)) (fun b hb => by have := HF.out b hb; simp; omega)).mono ?_
  rintro e w3 ⟨A3, c3, rfl, hs3, hb3⟩
  have hz3 : w2.heap.size < w3.heap.size := by have := hb3.size; simp at this; omega
  have HS3 := hide hs3
  clear hs3
  have hE : w3.cell? ⟨w2.heap.size, 0, none⟩ = some (.int .i64 (flOf (pairsF xs)).1) ∧ w3.cell? ⟨w2.heap.size, 1, none⟩ = some (.int .i64 (flOf (pairsF xs)).2) := by
    obtain ⟨hc1, hf1⟩ := bcell hb3
    rw [hc1 _ _ (by first | assumption | exact Nat.le_refl _ | omega | (simp; done) | (simp; omega)), hc1 _ _ (by first | assumption | exact Nat.le_refl _ | omega | (simp; done) | (simp; omega))]
    simp [go_sem]
  by_cases hok : (flOf (pairsF xs)).1 = 0
  · have hok1 : ((flOf (pairsF xs)).1 != 0) = false := by simp [hok]
    obtain ⟨he0, he1⟩ := hE
    have HOK := hide hok
    clear hok
    have hps := psOf_len xs
    go_wp2
    obtain ⟨W3, hW3⟩ : ∃ W3, W3 = w3.alloc (.cells #[.int .i64 (flOf (pairsF xs)).1, .int .i64 (flOf (pairsF xs)).2] 31) := ⟨_, rfl⟩
    have HW3 := hide hW3
    rw [← hW3]
    clear hW3
    have hbW : Below w3.heap.size w3 W3 := by rw [HW3.out]; exact (show Below _ _ _ by repeat (first | assumption | (with_reducible exact Below.refl _ _) | (with_reducible apply below_drewN) | (with_reducible apply Below.drew) | (with_reducible refine Below.alloc2_ ?_ (by first | assumption | exact Nat.le_refl _ | omega | (simp; done) | (simp; omega)) _) | (with_reducible refine Below.setCell ?_ (by first | assumption | exact Nat.le_refl _ | omega | (simp; done) | (simp; omega)) _) | (with_reducible refine Below.then2_ ?_ (by assumption) (by first | assumption | exact Nat.le_refl _ | omega | (simp; done) | (simp; omega))) | exact Below.drew (by assumption) | exact Below.drew (Below.refl _ _)))
    have hg0 : W3.cell? ⟨w3.heap.size, 0, none⟩ = some (.int .i64 (flOf (pairsF xs)).1) := by rw [HW3.out]; simp [go_sem]
    have hzW := hbW.size
    have hbw3 : Below w.heap.size w w3 := (show Below _ _ _ by repeat (first | assumption | (with_reducible exact Below.refl _ _) | (with_reducible apply below_drewN) | (with_reducible apply Below.drew) | (with_reducible refine Below.alloc2_ ?_ (by first | assumption | exact Nat.le_refl _ | omega | (simp; done) | (simp; omega)) _) | (with_reducible refine Below.setCell ?_ (by first | assumption | exact Nat.le_refl _ | omega | (simp; done) | (simp; omega)) _) | (with_reducible refine Below.then2_ ?_ (by assumption) (by first | assumption | exact Nat.le_refl _ | omega | (simp; done) | (simp; omega))) | exact Below.drew (by assumption) | exact Below.drew (Below.refl _ _)))
    have hbW' : Below w.heap.size w W3 := (show Below _ _ _ by repeat (first | assumption | (with_reducible exact Below.refl _ _) | (with_reducible apply below_drewN) | (with_reducible apply Below.drew) | (with_reducible refine Below.alloc2_ ?_ (by first | assumption | exact Nat.le_refl _ | omega | (simp; done) | (simp; omega)) _) | (with_reducible refine Below.setCell ?_ (by first | assumption | exact Nat.le_refl _ | omega | (simp; done) | (simp; omega)) _) | (with_reducible refine Below.then2_ ?_ (by assumption) (by first | assumption | exact Nat.le_refl _ | omega | (simp; done) | (simp; omega))) | exact Below.drew (by assumption) | exact Below.drew (Below.refl _ _)))
    go_loopw [7, 8] (fun kv i wr => ∃ (j : Nat), j ≤ (psOf (pairsF xs)).length ∧ i = .int .i64 j ∧ kv = .int .i64 ((busyOf xs ((psOf (pairsF xs)).take j)).length : Nat) ∧ Hid (∃ n, wr = World.drewN W3 n)) (fun _ i _ => (psOf (pairsF xs)).length - (intOf i).toNat)
    case atStart => exact ⟨0, by omega, rfl, rfl, 0, rfl⟩
    case round =>
      obtain ⟨j, hj, rfl, rfl, hw⟩ := hrel
      obtain ⟨n, rfl⟩ := hw.out
      clear hw
      by_cases hlt : j < (psOf (pairsF xs)).length
      · obtain ⟨b, o, rfl, hFb, hc0, hc1, hc2⟩ := (HS2.out.mono (w' := W3) (fun b hb' => (hbW.block b (by have := hb'.2; omega)).trans (hb3.block b (by have := hb'.2; simp; omega) |>.trans (Below.heap_alloc _ _ _ hb'.2)))).pair_at j hlt
        have hfr := psOf_from xs j hlt
        obtain ⟨f, hf⟩ : ∃ f, f = (psOf (pairsF xs))[j].from_ := ⟨_, rfl⟩
        rw [← hf] at hc0 hfr
        have hf0 : (0 : Int) ≤ (f : Int) := Int.natCast_nonneg _
        have hf1 : (f : Int) < (xs.length : Int) := by omega
        have hj0 : (0 : Int) ≤ (j : Int) := Int.natCast_nonneg _
        have hj1 : (j : Int) < ((psOf (pairsF xs)).length : Int) := by omega
        have hsnoc := hide (busyOf_snoc xs ((psOf (pairsF xs)).take j) (psOf (pairsF xs))[j])
        have htk := hide (List.take_succ_eq_append_getElem hlt)
        by_cases hto : (psOf (pairsF xs))[j].to_ < 0
        · obtain ⟨hb1', hb2'⟩ := busyOf_get xs _ j hlt hto f hf.symm hfr
          obtain ⟨kk, hkk⟩ : ∃ kk, kk = (busyOf xs ((psOf (pairsF xs)).take j)).length := ⟨_, rfl⟩
          have hlen' : (busyOf xs ((psOf (pairsF xs)).take (j + 1))).length = kk + 1 := by
            rw [htk.out, hsnoc.out, if_pos hto, hkk]
            simp
          have HL := hide hlen'
          clear hlen'
          rw [← hkk] at hb1' hb2' ⊢
          obtain ⟨bb, ob, rfl, hFbb, hd0⟩ := (HS3.out.mono (w' := W3) (fun b hb' => hbW.block b hb'.2)).int_at kk hb1'
          have hval : (busyOf xs (psOf (pairsF xs)))[kk] = xs[f].proc := by
            rw [List.getElem?_eq_getElem hb1'] at hb2'
            exact Option.some.inj hb2'
          rw [hval] at hd0
          clear hval hb2' hkk
          obtain ⟨bx, ox, Ax, cx, rfl, hFx, -, hx0, -, -⟩ := (HX.out.mono (w' := W3) (fun b hb' => hbW'.block b (HF.out b hb'))).event_at f hfr
          have hk0 : (0 : Int) ≤ (kk : Int) := Int.natCast_nonneg _
          have hk1 : (kk : Int) < ((busyOf xs (psOf (pairsF xs))).length : Int) := by omega
          have hkb : kk < 1000 := by have := busyOf_len xs (psOf (pairsF xs)); omega
          have HF2 := hide hf
          clear hf
          go_wp2
          go_quiet (fail)
          go_wp2
          first | exact ⟨⟨j + 1, by omega, by go_num, by rw [HL.out]; go_num, _, rfl⟩, by simp [intOf]; omega⟩ | exact ⟨by ((repeat apply Exists.intro); refine ⟨?_, rfl⟩; exact ⟨j + 1, by omega, by go_num, by rw [HL.out]; go_num, _, rfl⟩), by simp [intOf]; omega⟩
        · have hlen' : (busyOf xs ((psOf (pairsF xs)).take (j + 1))).length = (busyOf xs ((psOf (pairsF xs)).take j)).length := by
            rw [htk.out, hsnoc.out, if_neg hto]
          have HL := hide hlen'
          clear hlen'
          have HF2 := hide hf
          clear hf
          go_wp2
          first | exact ⟨⟨j + 1, by omega, by go_num, by rw [HL.out], _, rfl⟩, by simp [intOf]; omega⟩ | exact ⟨by ((repeat apply Exists.intro); refine ⟨?_, rfl⟩; exact ⟨j + 1, by omega, by go_num, by rw [HL.out], _, rfl⟩), by simp [intOf]; omega⟩
      · obtain rfl : j = (psOf (pairsF xs)).length := by omega
        have htk := List.take_length (l := psOf (pairsF xs))
        rw [htk]
        clear htk
        have hok := HOK.out
        go_wp2
        go_ret
        exact ⟨by first | rfl | (simp; done), (show Below _ _ _ by repeat (first | assumption | (with_reducible exact Below.refl _ _) | (with_reducible apply below_drewN) | (with_reducible apply Below.drew) | (with_reducible refine Below.alloc2_ ?_ (by first | assumption | exact Nat.le_refl _ | omega | (simp; done) | (simp; omega)) _) | (with_reducible refine Below.setCell ?_ (by first | assumption | exact Nat.le_refl _ | omega | (simp; done) | (simp; omega)) _) | (with_reducible refine Below.then2_ ?_ (by assumption) (by first | assumption | exact Nat.le_refl _ | omega | (simp; done) | (simp; omega))) | exact Below.drew (by assumption) | exact Below.drew (Below.refl _ _)))⟩
  · have hok1 : ((flOf (pairsF xs)).1 != 0) = true := by simp [hok]
    have HOK := hide hok
    clear hok
    obtain ⟨he0, he1⟩ := hE
    have hps : psOf (pairsF xs) = [] := by
      rcases flOf_cases xs with ⟨h1, _⟩ | ⟨_, h2⟩ | ⟨j, _, h2, _⟩
      · exact absurd (by rw [h1]) HOK.out
      · rw [h2]; rfl
      · rw [h2]; rfl
    have hbl : (busyOf xs (psOf (pairsF xs))).length = 0 := by rw [hps]; rfl
    clear hps
    go_wp2
    go_ret
    exact ⟨by first | rfl | (simp; done), (show Below _ _ _ by repeat (first | assumption | (with_reducible exact Below.refl _ _) | (with_reducible apply below_drewN) | (with_reducible apply Below.drew) | (with_reducible refine Below.alloc2_ ?_ (by first | assumption | exact Nat.le_refl _ | omega | (simp; done) | (simp; omega)) _) | (with_reducible refine Below.setCell ?_ (by first | assumption | exact Nat.le_refl _ | omega | (simp; done) | (simp; omega)) _) | (with_reducible refine Below.then2_ ?_ (by assumption) (by first | assumption | exact Nat.le_refl _ | omega | (simp; done) | (simp; omega))) | exact Below.drew (by assumption) | exact Below.drew (Below.refl _ _)))⟩
end Go.Proofs.Ytjjmedgibcffhaa
