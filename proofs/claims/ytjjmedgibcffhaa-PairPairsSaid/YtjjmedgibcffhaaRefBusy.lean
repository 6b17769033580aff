/- ref04.Pairs and ref04.Busy for their callers. -/
import Derived.Test.YtjjmedgibcffhaaRefPairs
import Derived.Test.YtjjmedgibcffhaaBusy
namespace Go.Proofs.Ytjjmedgibcffhaa
open Go.RowKit Go.MapKept
set_option linter.unusedSimpArgs false
set_option linter.unusedVariables false


theorem refpairs_res (xs : List EventD) (F : Nat → Prop) (w : World) (A : Option Addr) (c : Nat) (hx : Ty.event.Sl F w A xs) (hF : ∀ b, F b → b < w.heap.size) :
    Calls Try.prog 21 #[.slice A xs.length c] w (PairsRes xs w) := by
  refine (refpairs_calls xs F w A c hx hF).mono fun e w' ⟨hb, h⟩ => ?_
  have hlen := psOf_len xs
  unfold PairsRes
  revert h hlen
  cases pairsF xs with
  | error ea =>
    intro h _
    exact ⟨none, 0, h, Ty.Sl.nil _ _ _ _, hb⟩
  | ok ps =>
    rintro ⟨v, rfl, hown⟩ hlen
    have hlen : ps.length ≤ 256 := hlen
    obtain ⟨A', c', rfl, _, hs⟩ := own_sl (t := Ty.pair) (enc := encP) encP_len (by decide) (fun _ _ _ => rfl) (F := Fresh w w') hown (fun b h1 h2 => ⟨h1, h2⟩) (show ps.length * 24 ≤ _ by omega)
    exact ⟨A', c', rfl, hs, hb⟩

set_option maxHeartbeats 1000000 in
set_option maxRecDepth 100000 in
theorem refbusy_calls (xs : List EventD) (F : Nat → Prop) (w : World) (A : Option Addr) (c : Nat) (hx : Ty.event.Sl F w A xs) (hF : ∀ b, F b → b < w.heap.size) :
    Calls Try.prog 23 #[.slice A xs.length c] w (BusyRes xs w) := by
  have HX := hide hx
  clear hx
  have HF := hide hF
  clear hF
  have hlen := HX.out.len_le (by decide)
  go_enter Try.func23, Try.ntmps23
  go_wp2_with fail
  go_at_call 21
  refine (refpairs_res xs F _ _ _ (HX.out.mono (SameOn.of_below (show Below _ _ _ by repeat (first | assumption | (with_reducible exact Below.refl _ _) | (with_reducible apply below_drewN) | (with_reducible apply Below.drew) | (with_reducible refine Below.alloc2_ ?_ (by first | assumption | exact Nat.le_refl _ | omega | (simp; done) | (simp; omega)) _) | (with_reducible refine Below.setCell ?_ (by first | assumption | exact Nat.le_refl _ | omega | (simp; done) | (simp; omega)) _) | (with_reducible refine Below.then2_ ?_ (by assumption) (by first | assumption | exact Nat.le_refl _ | omega | (simp; done) | (simp; omega))) | exact Below.drew (by assumption) | exact Below.drew (Below.refl _ _))) HF.out)) (fun b hb => by have := HF.out b hb; simp; omega)).mono ?_
  rintro e w1 ⟨A1, c1, rfl, hs1, hb1⟩
  have HS1 := hide hs1
  clear hs1
  have hR : w1.cell? ⟨w.heap.size, 0, none⟩ = some (.int .i64 0) ∧ w1.cell? ⟨w.heap.size, 1, none⟩ = some (.int .i64 0) ∧ w1.frozen? ⟨w.heap.size, 0, none⟩ = false ∧ w1.frozen? ⟨w.heap.size, 1, none⟩ = false := by
    obtain ⟨hc1, hf1⟩ := bcell hb1
    rw [hc1 _ _ (by first | assumption | exact Nat.le_refl _ | omega | (simp; done) | (simp; omega)), hc1 _ _ (by first | assumption | exact Nat.le_refl _ | omega | (simp; done) | (simp; omega)), hf1 _ _ (by first | assumption | exact Nat.le_refl _ | omega | (simp; done) | (simp; omega)), hf1 _ _ (by first | assumption | exact Nat.le_refl _ | omega | (simp; done) | (simp; omega))]
    simp [go_sem]
  have hz1 : w.heap.size < w1.heap.size := by have := hb1.size; simp at this; omega
  by_cases hok : (flOf (pairsF xs)).1 = 0
  · have hok1 : ((flOf (pairsF xs)).1 != 0) = false := by simp [hok]
    have HOK := hide hok
    clear hok
    have HR := hide hR
    clear hR
    have hps := psOf_len xs
    obtain ⟨W1, hW1⟩ : ∃ W1, W1 = w1.alloc (.cells #[.int .i64 (flOf (pairsF xs)).1, .int .i64 (flOf (pairsF xs)).2] 31) := ⟨_, rfl⟩
    have HW1 := hide hW1
    go_wp2
    rw [← hW1]
    clear hW1
    have hbW : Below w.heap.size w W1 := by rw [HW1.out]; exact (show Below _ _ _ by repeat (first | assumption | (with_reducible exact Below.refl _ _) | (with_reducible apply below_drewN) | (with_reducible apply Below.drew) | (with_reducible refine Below.alloc2_ ?_ (by first | assumption | exact Nat.le_refl _ | omega | (simp; done) | (simp; omega)) _) | (with_reducible refine Below.setCell ?_ (by first | assumption | exact Nat.le_refl _ | omega | (simp; done) | (simp; omega)) _) | (with_reducible refine Below.then2_ ?_ (by assumption) (by first | assumption | exact Nat.le_refl _ | omega | (simp; done) | (simp; omega))) | exact Below.drew (by assumption) | exact Below.drew (Below.refl _ _)))
    have hbW1 : Below w1.heap.size w1 W1 := by rw [HW1.out]; exact (show Below _ _ _ by repeat (first | assumption | (with_reducible exact Below.refl _ _) | (with_reducible apply below_drewN) | (with_reducible apply Below.drew) | (with_reducible refine Below.alloc2_ ?_ (by first | assumption | exact Nat.le_refl _ | omega | (simp; done) | (simp; omega)) _) | (with_reducible refine Below.setCell ?_ (by first | assumption | exact Nat.le_refl _ | omega | (simp; done) | (simp; omega)) _) | (with_reducible refine Below.then2_ ?_ (by assumption) (by first | assumption | exact Nat.le_refl _ | omega | (simp; done) | (simp; omega))) | exact Below.drew (by assumption) | exact Below.drew (Below.refl _ _)))
    have hzW := hbW1.size
    go_loopw [6, 7] (fun v i wr => ∃ (j : Nat), j ≤ (psOf (pairsF xs)).length ∧ i = .int .i64 j ∧ Hid (wr.ownsRow W1.heap.size 2 1 v (busyOf xs ((psOf (pairsF xs)).take j)).length ((busyOf xs ((psOf (pairsF xs)).take j)).flatMap (encI .i64))) ∧ Hid (Below W1.heap.size W1 wr)) (fun _ i _ => (psOf (pairsF xs)).length - (intOf i).toNat)
    case atStart => exact ⟨0, by omega, rfl, ⟨rfl, .inl ⟨rfl, rfl⟩⟩, Below.refl _ _⟩
    case round =>
      obtain ⟨j, hj, rfl, hown, hb⟩ := hrel
      have hb := hb.out
      have hsz := hb.size
      by_cases hlt : j < (psOf (pairsF xs)).length
      · obtain ⟨b, o, rfl, hFb, hc0, hc1, hc2⟩ := (HS1.out.mono (w' := wr) (fun b hb' => (hb.block b (by have := hb'.2; omega)).trans (hbW1.block b hb'.2))).pair_at j hlt
        have hbb : b < wr.heap.size := by have := hFb.2; omega
        have hsnoc := hide (busyOf_snoc xs ((psOf (pairsF xs)).take j) (psOf (pairsF xs))[j])
        have htk := hide (List.take_succ_eq_append_getElem hlt)
        have hfr := psOf_from xs j hlt
        have hbl := hide (busyOf_len xs ((psOf (pairsF xs)).take j))
        by_cases hto : (psOf (pairsF xs))[j].to_ < 0
        · obtain ⟨f, hf⟩ : ∃ f, f = (psOf (pairsF xs))[j].from_ := ⟨_, rfl⟩
          rw [← hf] at hc0 hfr
          obtain ⟨bf, of, Af, cf, rfl, hFf, -, hd0, -, -⟩ := (HX.out.mono (w' := wr) (fun b hb' => (hb.block b (by have := HF.out b hb'; have := hbW.size; omega)).trans (hbW.block b (HF.out b hb')))).event_at f hfr
          have hbf : bf < wr.heap.size := by have := HF.out bf hFf; have := hbW.size; omega
          have hf0 : (0 : Int) ≤ (f : Int) := Int.natCast_nonneg _
          have hf1 : (f : Int) < (xs.length : Int) := by omega
          have hval := hide (show ((xs[(psOf (pairsF xs))[j].from_]?).map (·.proc)).getD 0 = xs[f].proc by rw [← hf, List.getElem?_eq_getElem hfr]; rfl)
          have HF2 := hide hf
          clear hf
          go_wp2_with (at_builtin; go_loud (refine wp_append_at (enc := encI .i64) (encI_len .i64) (encI_one .i64) (W := wr) W1.heap.size rfl _ _ 44 2 _ 8 rfl Try.underlying44 info2 rfl (by decide) (by decide) u6 _ xs[f].proc _ rfl rfl (by simp) hown.out (by omega) (by have := hbl.out; simp at this; omega) ?_); intro v3 w3 hown3 hk3 hat3 hs3)
          have h1 : w3.ownsRow W1.heap.size 2 1 v3 (busyOf xs ((psOf (pairsF xs)).take (j + 1))).length ((busyOf xs ((psOf (pairsF xs)).take (j + 1))).flatMap (encI .i64)) := by
            rw [htk.out, hsnoc.out, if_pos hto, hval.out]
            exact hown3
          have hb3 : Below W1.heap.size W1 w3 := Below.keep_ hb hk3 (by omega) (fun k hk => (hown.out.lt k hk).1)
          first | exact ⟨⟨j + 1, by omega, by go_num, h1, hb3⟩, by simp [intOf]; omega⟩ | exact ⟨by ((repeat apply Exists.intro); refine ⟨?_, rfl⟩; exact ⟨j + 1, by omega, by go_num, h1, hb3⟩), by simp [intOf]; omega⟩
        · go_wp2
          have h1 : wr.ownsRow W1.heap.size 2 1 u6 (busyOf xs ((psOf (pairsF xs)).take (j + 1))).length ((busyOf xs ((psOf (pairsF xs)).take (j + 1))).flatMap (encI .i64)) := by
            rw [htk.out, hsnoc.out, if_neg hto]
            exact hown.out
          first | exact ⟨⟨j + 1, by omega, by go_num, h1, (show Below _ _ _ by repeat (first | assumption | (with_reducible exact Below.refl _ _) | (with_reducible apply below_drewN) | (with_reducible apply Below.drew) | (with_reducible refine Below.alloc2_ ?_ (by first | assumption | exact Nat.le_refl _ | omega | (simp; done) | (simp; omega)) _) | (with_reducible refine Below.setCell ?_ (by first | assumption | exact Nat.le_refl _ | omega | (simp; done) | (simp; omega)) _) | (with_reducible refine Below.then2_ ?_ (by assumption) (by first | assumption | exact Nat.le_refl _ | omega | (simp; done) | (simp; omega))) | exact Below.drew (by assumption) | exact Below.drew (Below.refl _ _)))⟩, by simp [intOf]; omega⟩ | exact ⟨by ((repeat apply Exists.intro); refine ⟨?_, rfl⟩; exact ⟨j + 1, by omega, by go_num, h1, (show Below _ _ _ by repeat (first | assumption | (with_reducible exact Below.refl _ _) | (with_reducible apply below_drewN) | (with_reducible apply Below.drew) | (with_reducible refine Below.alloc2_ ?_ (by first | assumption | exact Nat.le_refl _ | omega | (simp; done) | (simp; omega)) _) | (with_reducible refine Below.setCell ?_ (by first | assumption | exact Nat.le_refl _ | omega | (simp; done) | (simp; omega)) _) | (with_reducible refine Below.then2_ ?_ (by assumption) (by first | assumption | exact Nat.le_refl _ | omega | (simp; done) | (simp; omega))) | exact Below.drew (by assumption) | exact Below.drew (Below.refl _ _)))⟩), by simp [intOf]; omega⟩
      · obtain rfl : j = (psOf (pairsF xs)).length := by omega
        have hown := hown.out
        rw [List.take_length] at hown
        obtain ⟨Av, cv, rfl, hcv, -⟩ := own_sl (t := Ty.int .i64) (enc := encI .i64) (encI_len .i64) (by decide) (fun _ _ _ => rfl) (F := Fresh w wr) hown (fun b h1 h2 => ⟨by omega, h2⟩) (show _ * 8 ≤ _ by have := busyOf_len xs (psOf (pairsF xs)); omega)
        have HOWN := hide hown
        clear hown
        have hRr : ∀ W, Below w1.heap.size w1 W → W.cell? ⟨w.heap.size, 0, none⟩ = some (.int .i64 0) ∧ W.cell? ⟨w.heap.size, 1, none⟩ = some (.int .i64 0) ∧ W.frozen? ⟨w.heap.size, 0, none⟩ = false ∧ W.frozen? ⟨w.heap.size, 1, none⟩ = false := by
          intro W hBW
          obtain ⟨q1, q2⟩ := bcell hBW
          rw [q1 _ _ hz1, q1 _ _ hz1, q2 _ _ hz1, q2 _ _ hz1]
          exact HR.out
        obtain ⟨hr0, hr1, hr2, hr3⟩ := hRr wr (hbW1.trans (hb.mono (by omega)))
        clear hRr
        have hrl : w.heap.size < wr.heap.size := by omega
        go_wp2
        have hz : (flOf (pairsF xs)).2 = 0 := by
          have h0 := HOK.out
          rcases flOf_cases xs with ⟨h1, _⟩ | ⟨h1, _⟩ | ⟨j, h1, _⟩ <;> rw [h1] at h0 ⊢ <;> cases h0
        refine bodyPost_ret (v := .tuple #[.slice Av (busyOf xs (psOf (pairsF xs))).length cv, .agg #[.int .i64 0, .int .i64 0]]) (by simp [results, Try.results23, go_sem, hr0, hr1, hrl]) rfl ⟨Av, cv, ?_, ?_, (show Below _ _ _ by repeat (first | assumption | (with_reducible exact Below.refl _ _) | (with_reducible apply below_drewN) | (with_reducible apply Below.drew) | (with_reducible refine Below.alloc2_ ?_ (by first | assumption | exact Nat.le_refl _ | omega | (simp; done) | (simp; omega)) _) | (with_reducible refine Below.setCell ?_ (by first | assumption | exact Nat.le_refl _ | omega | (simp; done) | (simp; omega)) _) | (with_reducible refine Below.then2_ ?_ (by assumption) (by first | assumption | exact Nat.le_refl _ | omega | (simp; done) | (simp; omega))) | exact Below.drew (by assumption) | exact Below.drew (Below.refl _ _)))⟩
        · rw [hz, HOK.out]
        · have hown' := ownsRow_setCell_other (ownsRow_setCell_other HOWN.out (a := ⟨w.heap.size, 0, none⟩) (fun e => by have := (HOWN.out.lt _ e).1; simp at this; omega) (.int .i64 0)) (a := ⟨w.heap.size, 1, none⟩) (fun e => by have := (HOWN.out.lt _ e).1; simp at this; omega) (.int .i64 0)
          obtain ⟨Av', cv', e, -, hsl⟩ := own_sl (t := Ty.int .i64) (enc := encI .i64) (encI_len .i64) (by decide) (fun _ _ _ => rfl) (F := Fresh w ((wr.setCell ⟨w.heap.size, 0, none⟩ (.int .i64 0)).setCell ⟨w.heap.size, 1, none⟩ (.int .i64 0))) hown' (fun b h1 h2 => ⟨by omega, h2⟩) (show _ * 8 ≤ _ by have := busyOf_len xs (psOf (pairsF xs)); omega)
          injection e with e1 e2 e3
          subst e1
          exact hsl
  · have hok1 : ((flOf (pairsF xs)).1 != 0) = true := by simp [hok]
    have HOK := hide hok
    clear hok
    obtain ⟨hr0, hr1, hr2, hr3⟩ := hR
    go_wp2
    go_region
    go_wp2
    have hps : psOf (pairsF xs) = [] := by
      rcases flOf_cases xs with ⟨h1, _⟩ | ⟨_, h2⟩ | ⟨j, _, h2, _⟩
      · exact absurd (by rw [h1]) HOK.out
      · rw [h2]; rfl
      · rw [h2]; rfl
    refine bodyPost_ret (v := .tuple #[.slice none 0 0, .agg #[.int .i64 (flOf (pairsF xs)).1, .int .i64 (flOf (pairsF xs)).2]]) (by simp [results, Try.results23, go_sem, hr0, hr1, hz1]) rfl ⟨none, 0, ?_, ?_, (show Below _ _ _ by repeat (first | assumption | (with_reducible exact Below.refl _ _) | (with_reducible apply below_drewN) | (with_reducible apply Below.drew) | (with_reducible refine Below.alloc2_ ?_ (by first | assumption | exact Nat.le_refl _ | omega | (simp; done) | (simp; omega)) _) | (with_reducible refine Below.setCell ?_ (by first | assumption | exact Nat.le_refl _ | omega | (simp; done) | (simp; omega)) _) | (with_reducible refine Below.then2_ ?_ (by assumption) (by first | assumption | exact Nat.le_refl _ | omega | (simp; done) | (simp; omega))) | exact Below.drew (by assumption) | exact Below.drew (Below.refl _ _)))⟩
    · rw [hps]; rfl
    · rw [hps]; exact Ty.Sl.nil _ _ _ _
end Go.Proofs.Ytjjmedgibcffhaa
