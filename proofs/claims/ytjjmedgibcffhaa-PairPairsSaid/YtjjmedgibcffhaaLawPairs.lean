/- assizelaw04.PairPairs, walked. -/
import Derived.Test.YtjjmedgibcffhaaRefBusy
import Derived.Test.YtjjmedgibcffhaaSame
import Derived.Test.YtjjmedgibcffhaaConv
namespace Go.Proofs.Ytjjmedgibcffhaa
open Go.RowKit Go.MapKept
set_option linter.unusedSimpArgs false
set_option linter.unusedVariables false

theorem cell_old {w : World} {o : Obj} {b n : Nat} (h : b < w.heap.size) : (w.alloc o).cell? ⟨b, n, none⟩ = w.cell? ⟨b, n, none⟩ := by
  unfold World.cell?
  rw [Below.heap_alloc _ _ _ h]
/-- What ref03.Copy answers. -/
def CopyRes (xs : List EventD) (w : World) (e : Ending) (w' : World) : Prop :=
  ∃ A c, e = .returned (.slice A xs.length c) ∧ Ty.event.Sl (fun b => b < w'.heap.size) w' A xs ∧ Below w.heap.size w w'
theorem copy_res (xs : List EventD) (F : Nat → Prop) (w : World) (v : Value) (h : M.RD F w (.sl (xs.map encEvent)) v) (hF : ∀ b, F b → b < w.heap.size) (hb : M.SlOk EventOk 40 xs) : Calls Try.prog 20 #[v] w (CopyRes xs w) := by
  have hP := copy20 xs hb.1 (fun e he => ⟨(hb.2 e he).2.2.1, fun c hc => ((hb.2 e he).2.2.2 c hc).2.2.2.1⟩) ⟨0, [], fun _ => none⟩ ⟨fun _ => ⟨none, 0, 0, 0⟩, fun _ => False, fun b => b < w.heap.size⟩ w #[v]
    ⟨fun nm k hk => (by cases hk), fun n m b hn => (by cases hn), fun n b hn => (by cases hn), fun b hb => hb⟩ (fun k hk => hk.elim) rfl (fun j y hy => by
      cases j with
      | zero => simp at hy; subst hy; exact .d (h.mono hF (fun _ _ => rfl))
      | succ j => simp at hy)
  refine hP.mono ?_
  rintro e w' ⟨r, v', S', g', rfl, hE, hS, _, hv, rfl, _⟩
  cases hv with | d hv =>
  obtain ⟨A, c, rfl, hs, _⟩ := conv_events (hv.mono (fun b hb => hS.ltF b hb) (fun _ _ => rfl)) hb
  exact ⟨A, c, rfl, hs, hE.os, hE.tape, hE.output, hE.size, fun i hi => hE.keep i hi⟩

set_option maxHeartbeats 4000000 in
set_option maxRecDepth 100000 in
theorem lawPairs_calls (xs : List EventD) (F : Nat → Prop) (w : World) (A : Option Addr) (c : Nat) (hxr : M.RD F w (.sl (xs.map encEvent)) (.slice A xs.length c)) (hok : M.SlOk EventOk 40 xs) (hF : ∀ b, F b → b < w.heap.size) :
    Calls Try.prog 7 #[.slice A xs.length c] w fun e w' => e = .returned (.bool true) ∧ Below w.heap.size w w' := by
  have hx : Ty.event.Sl F w A xs := by
    obtain ⟨A', c', he, h, _⟩ := conv_events hxr hok
    injection he with he
    rw [he]; exact h
  have HXR := hide hxr
  clear hxr
  have HOK := hide hok
  clear hok
  have HX := hide hx
  clear hx
  have HF := hide hF
  clear hF
  have hlen := HX.out.len_le (by decide)
  go_enter Try.func7, Try.ntmps7
  go_wp2_with fail
  go_at_call 16
  refine (alive4_calls _).mono ?_
  rintro e w1 ⟨rfl, hb1⟩
  have hz1 := hb1.size
  go_wp2_with fail
  go_at_call 20
  refine (copy_res xs F _ _ (HXR.out.mono (fun b hb => hb) (fun b hb => (SameOn.of_below ((show Below _ _ _ by repeat (first | assumption | (with_reducible exact Below.refl _ _) | (with_reducible apply below_drewN) | (with_reducible apply Below.drew) | (with_reducible refine Below.alloc2_ ?_ (by first | assumption | exact Nat.le_refl _ | omega | (simp; done) | (simp; omega)) _) | (with_reducible refine Below.setCell ?_ (by first | assumption | exact Nat.le_refl _ | omega | (simp; done) | (simp; omega)) _) | (with_reducible refine Below.then2_ ?_ (by assumption) (by first | assumption | exact Nat.le_refl _ | omega | (simp; done) | (simp; omega))) | exact Below.drew (by assumption) | exact Below.drew (Below.refl _ _))) : Below w.heap.size w _) HF.out) b hb)) (fun b hb => by have := HF.out b hb; omega) HOK.out).mono ?_
  rintro e w2 ⟨A2, c2, rfl, hs2, hb2⟩
  have hz2 := hb2.size
  have HS2 := hide hs2
  clear hs2
  go_wp2_with fail
  go_at_call 19
  refine (pairs_res xs (fun b => b < w2.heap.size) _ _ _ HS2.out (fun b hb => hb)).mono ?_
  rintro e w3 ⟨A3, c3, rfl, hs3, hb3⟩
  have hz3 := hb3.size
  have HS3 := hide hs3
  clear hs3
  go_wp2_with fail
  go_at_call 21
  refine (refpairs_res xs F _ _ _ (HX.out.mono (SameOn.of_below (show Below _ _ _ by repeat (first | assumption | (with_reducible exact Below.refl _ _) | (with_reducible apply below_drewN) | (with_reducible apply Below.drew) | (with_reducible refine Below.alloc2_ ?_ (by first | assumption | exact Nat.le_refl _ | omega | (simp; done) | (simp; omega)) _) | (with_reducible refine Below.setCell ?_ (by first | assumption | exact Nat.le_refl _ | omega | (simp; done) | (simp; omega)) _) | (with_reducible refine Below.then2_ ?_ (by assumption) (by first | assumption | exact Nat.le_refl _ | omega | (simp; done) | (simp; omega))) | exact Below.drew (by assumption) | exact Below.drew (Below.refl _ _))) HF.out)) (fun b hb => by have := HF.out b hb; simp; omega)).mono ?_
  rintro e w4 ⟨A4, c4, rfl, hs4, hb4⟩
  have hz4 : w3.heap.size < w4.heap.size := by have := hb4.size; simp at this; omega
  have HS4 := hide hs4
  clear hs4
  go_wp2_with fail
  go_at_call 22
  refine (busy_calls xs (fun b => b < w2.heap.size) _ _ _ (HS2.out.mono (SameOn.of_below (F := fun b => b < w2.heap.size) ((show Below _ _ _ by repeat (first | assumption | (with_reducible exact Below.refl _ _) | (with_reducible apply below_drewN) | (with_reducible apply Below.drew) | (with_reducible refine Below.alloc2_ ?_ (by first | assumption | exact Nat.le_refl _ | omega | (simp; done) | (simp; omega)) _) | (with_reducible refine Below.setCell ?_ (by first | assumption | exact Nat.le_refl _ | omega | (simp; done) | (simp; omega)) _) | (with_reducible refine Below.then2_ ?_ (by assumption) (by first | assumption | exact Nat.le_refl _ | omega | (simp; done) | (simp; omega))) | exact Below.drew (by assumption) | exact Below.drew (Below.refl _ _))) : Below w2.heap.size w2 _) (fun b hb => hb))) (fun b hb => by simp; omega)).mono ?_
  rintro e w5 ⟨A5, c5, rfl, hs5, hb5⟩
  have hz5 : w4.heap.size < w5.heap.size := by have := hb5.size; simp at this; omega
  have HS5 := hide hs5
  clear hs5
  go_wp2_with fail
  go_at_call 23
  refine (refbusy_calls xs F _ _ _ (HX.out.mono (SameOn.of_below (show Below _ _ _ by repeat (first | assumption | (with_reducible exact Below.refl _ _) | (with_reducible apply below_drewN) | (with_reducible apply Below.drew) | (with_reducible refine Below.alloc2_ ?_ (by first | assumption | exact Nat.le_refl _ | omega | (simp; done) | (simp; omega)) _) | (with_reducible refine Below.setCell ?_ (by first | assumption | exact Nat.le_refl _ | omega | (simp; done) | (simp; omega)) _) | (with_reducible refine Below.then2_ ?_ (by assumption) (by first | assumption | exact Nat.le_refl _ | omega | (simp; done) | (simp; omega))) | exact Below.drew (by assumption) | exact Below.drew (Below.refl _ _))) HF.out)) (fun b hb => by have := HF.out b hb; simp; omega)).mono ?_
  rintro e w6 ⟨A6, c6, rfl, hs6, hb6⟩
  have hz6 : w5.heap.size < w6.heap.size := by have := hb6.size; simp at this; omega
  have HS6 := hide hs6
  clear hs6
  have h3 : w4.cell? ⟨w3.heap.size, 0, none⟩ = some (.int .i64 (flOf (pairsF xs)).1) ∧ w4.cell? ⟨w3.heap.size, 1, none⟩ = some (.int .i64 (flOf (pairsF xs)).2) := by
    obtain ⟨hc1, hf1⟩ := bcell hb4
    rw [hc1 _ _ (by first | assumption | exact Nat.le_refl _ | omega | (simp; done) | (simp; omega)), hc1 _ _ (by first | assumption | exact Nat.le_refl _ | omega | (simp; done) | (simp; omega))]
    simp [go_sem]
  have h4 : w5.cell? ⟨w4.heap.size, 0, none⟩ = some (.int .i64 (flOf (pairsF xs)).1) ∧ w5.cell? ⟨w4.heap.size, 1, none⟩ = some (.int .i64 (flOf (pairsF xs)).2) := by
    obtain ⟨hc1, hf1⟩ := bcell hb5
    rw [hc1 _ _ (by first | assumption | exact Nat.le_refl _ | omega | (simp; done) | (simp; omega)), hc1 _ _ (by first | assumption | exact Nat.le_refl _ | omega | (simp; done) | (simp; omega))]
    simp [go_sem]
  have h5 : w6.cell? ⟨w5.heap.size, 0, none⟩ = some (.int .i64 (flOf (pairsF xs)).1) ∧ w6.cell? ⟨w5.heap.size, 1, none⟩ = some (.int .i64 (flOf (pairsF xs)).2) := by
    obtain ⟨hc1, hf1⟩ := bcell hb6
    rw [hc1 _ _ (by first | assumption | exact Nat.le_refl _ | omega | (simp; done) | (simp; omega)), hc1 _ _ (by first | assumption | exact Nat.le_refl _ | omega | (simp; done) | (simp; omega))]
    simp [go_sem]
  have h36 : w6.cell? ⟨w3.heap.size, 0, none⟩ = some (.int .i64 (flOf (pairsF xs)).1) ∧ w6.cell? ⟨w3.heap.size, 1, none⟩ = some (.int .i64 (flOf (pairsF xs)).2) := by
    have c1 := (bcell hb5).1
    have c2 := (bcell hb6).1
    have e0 := h3.1
    have e1 := h3.2
    constructor
    · rw [c2 _ _ (by first | assumption | exact Nat.le_refl _ | omega | (simp; done) | (simp; omega)), cell_old (by first | assumption | exact Nat.le_refl _ | omega | (simp; done) | (simp; omega)), c1 _ _ (by first | assumption | exact Nat.le_refl _ | omega | (simp; done) | (simp; omega)), cell_old (by first | assumption | exact Nat.le_refl _ | omega | (simp; done) | (simp; omega))]; exact e0
    · rw [c2 _ _ (by first | assumption | exact Nat.le_refl _ | omega | (simp; done) | (simp; omega)), cell_old (by first | assumption | exact Nat.le_refl _ | omega | (simp; done) | (simp; omega)), c1 _ _ (by first | assumption | exact Nat.le_refl _ | omega | (simp; done) | (simp; omega)), cell_old (by first | assumption | exact Nat.le_refl _ | omega | (simp; done) | (simp; omega))]; exact e1
  have h46 : w6.cell? ⟨w4.heap.size, 0, none⟩ = some (.int .i64 (flOf (pairsF xs)).1) ∧ w6.cell? ⟨w4.heap.size, 1, none⟩ = some (.int .i64 (flOf (pairsF xs)).2) := by
    have c2 := (bcell hb6).1
    constructor
    · rw [c2 _ _ (by first | assumption | exact Nat.le_refl _ | omega | (simp; done) | (simp; omega)), cell_old (by first | assumption | exact Nat.le_refl _ | omega | (simp; done) | (simp; omega))]; exact h4.1
    · rw [c2 _ _ (by first | assumption | exact Nat.le_refl _ | omega | (simp; done) | (simp; omega)), cell_old (by first | assumption | exact Nat.le_refl _ | omega | (simp; done) | (simp; omega))]; exact h4.2
  clear h3 h4
  obtain ⟨W, hW⟩ : ∃ W, W = w6.alloc (.cells #[.int .i64 (flOf (pairsF xs)).1, .int .i64 (flOf (pairsF xs)).2] 31) := ⟨_, rfl⟩
  have e30 : W.cell? ⟨w3.heap.size, 0, none⟩ = some (.int .i64 (flOf (pairsF xs)).1) := by rw [hW, cell_old (by first | assumption | exact Nat.le_refl _ | omega | (simp; done) | (simp; omega))]; exact h36.1
  have e31 : W.cell? ⟨w3.heap.size, 1, none⟩ = some (.int .i64 (flOf (pairsF xs)).2) := by rw [hW, cell_old (by first | assumption | exact Nat.le_refl _ | omega | (simp; done) | (simp; omega))]; exact h36.2
  have e40 : W.cell? ⟨w4.heap.size, 0, none⟩ = some (.int .i64 (flOf (pairsF xs)).1) := by rw [hW, cell_old (by first | assumption | exact Nat.le_refl _ | omega | (simp; done) | (simp; omega))]; exact h46.1
  have e41 : W.cell? ⟨w4.heap.size, 1, none⟩ = some (.int .i64 (flOf (pairsF xs)).2) := by rw [hW, cell_old (by first | assumption | exact Nat.le_refl _ | omega | (simp; done) | (simp; omega))]; exact h46.2
  have e50 : W.cell? ⟨w5.heap.size, 0, none⟩ = some (.int .i64 (flOf (pairsF xs)).1) := by rw [hW, cell_old (by first | assumption | exact Nat.le_refl _ | omega | (simp; done) | (simp; omega))]; exact h5.1
  have e51 : W.cell? ⟨w5.heap.size, 1, none⟩ = some (.int .i64 (flOf (pairsF xs)).2) := by rw [hW, cell_old (by first | assumption | exact Nat.le_refl _ | omega | (simp; done) | (simp; omega))]; exact h5.2
  have hbW : Below w6.heap.size w6 W := by rw [hW]; exact (show Below _ _ _ by repeat (first | assumption | (with_reducible exact Below.refl _ _) | (with_reducible apply below_drewN) | (with_reducible apply Below.drew) | (with_reducible refine Below.alloc2_ ?_ (by first | assumption | exact Nat.le_refl _ | omega | (simp; done) | (simp; omega)) _) | (with_reducible refine Below.setCell ?_ (by first | assumption | exact Nat.le_refl _ | omega | (simp; done) | (simp; omega)) _) | (with_reducible refine Below.then2_ ?_ (by assumption) (by first | assumption | exact Nat.le_refl _ | omega | (simp; done) | (simp; omega))) | exact Below.drew (by assumption) | exact Below.drew (Below.refl _ _)))
  have L2 := hide ((HS2.out.weak (G := fun b => b < w2.heap.size) (fun b hb => hb)).mono (SameOn.of_below (F := fun b => b < w2.heap.size) ((show Below _ _ _ by repeat (first | assumption | (with_reducible exact Below.refl _ _) | (with_reducible apply below_drewN) | (with_reducible apply Below.drew) | (with_reducible refine Below.alloc2_ ?_ (by first | assumption | exact Nat.le_refl _ | omega | (simp; done) | (simp; omega)) _) | (with_reducible refine Below.setCell ?_ (by first | assumption | exact Nat.le_refl _ | omega | (simp; done) | (simp; omega)) _) | (with_reducible refine Below.then2_ ?_ (by assumption) (by first | assumption | exact Nat.le_refl _ | omega | (simp; done) | (simp; omega))) | exact Below.drew (by assumption) | exact Below.drew (Below.refl _ _))) : Below w2.heap.size w2 W) (fun b hb => hb)))
  have L3 := hide ((HS3.out.weak (G := fun b => b < w3.heap.size) (fun b hb => hb.2)).mono (SameOn.of_below (F := fun b => b < w3.heap.size) ((show Below _ _ _ by repeat (first | assumption | (with_reducible exact Below.refl _ _) | (with_reducible apply below_drewN) | (with_reducible apply Below.drew) | (with_reducible refine Below.alloc2_ ?_ (by first | assumption | exact Nat.le_refl _ | omega | (simp; done) | (simp; omega)) _) | (with_reducible refine Below.setCell ?_ (by first | assumption | exact Nat.le_refl _ | omega | (simp; done) | (simp; omega)) _) | (with_reducible refine Below.then2_ ?_ (by assumption) (by first | assumption | exact Nat.le_refl _ | omega | (simp; done) | (simp; omega))) | exact Below.drew (by assumption) | exact Below.drew (Below.refl _ _))) : Below w3.heap.size w3 W) (fun b hb => hb)))
  have L4 := hide ((HS4.out.weak (G := fun b => b < w4.heap.size) (fun b hb => hb.2)).mono (SameOn.of_below (F := fun b => b < w4.heap.size) ((show Below _ _ _ by repeat (first | assumption | (with_reducible exact Below.refl _ _) | (with_reducible apply below_drewN) | (with_reducible apply Below.drew) | (with_reducible refine Below.alloc2_ ?_ (by first | assumption | exact Nat.le_refl _ | omega | (simp; done) | (simp; omega)) _) | (with_reducible refine Below.setCell ?_ (by first | assumption | exact Nat.le_refl _ | omega | (simp; done) | (simp; omega)) _) | (with_reducible refine Below.then2_ ?_ (by assumption) (by first | assumption | exact Nat.le_refl _ | omega | (simp; done) | (simp; omega))) | exact Below.drew (by assumption) | exact Below.drew (Below.refl _ _))) : Below w4.heap.size w4 W) (fun b hb => hb)))
  have L5 := hide ((HS5.out.weak (G := fun b => b < w5.heap.size) (fun b hb => hb.2)).mono (SameOn.of_below (F := fun b => b < w5.heap.size) ((show Below _ _ _ by repeat (first | assumption | (with_reducible exact Below.refl _ _) | (with_reducible apply below_drewN) | (with_reducible apply Below.drew) | (with_reducible refine Below.alloc2_ ?_ (by first | assumption | exact Nat.le_refl _ | omega | (simp; done) | (simp; omega)) _) | (with_reducible refine Below.setCell ?_ (by first | assumption | exact Nat.le_refl _ | omega | (simp; done) | (simp; omega)) _) | (with_reducible refine Below.then2_ ?_ (by assumption) (by first | assumption | exact Nat.le_refl _ | omega | (simp; done) | (simp; omega))) | exact Below.drew (by assumption) | exact Below.drew (Below.refl _ _))) : Below w5.heap.size w5 W) (fun b hb => hb)))
  have L6 := hide ((HS6.out.weak (G := fun b => b < w6.heap.size) (fun b hb => hb.2)).mono (SameOn.of_below (F := fun b => b < w6.heap.size) ((show Below _ _ _ by repeat (first | assumption | (with_reducible exact Below.refl _ _) | (with_reducible apply below_drewN) | (with_reducible apply Below.drew) | (with_reducible refine Below.alloc2_ ?_ (by first | assumption | exact Nat.le_refl _ | omega | (simp; done) | (simp; omega)) _) | (with_reducible refine Below.setCell ?_ (by first | assumption | exact Nat.le_refl _ | omega | (simp; done) | (simp; omega)) _) | (with_reducible refine Below.then2_ ?_ (by assumption) (by first | assumption | exact Nat.le_refl _ | omega | (simp; done) | (simp; omega))) | exact Below.drew (by assumption) | exact Below.drew (Below.refl _ _))) : Below w6.heap.size w6 W) (fun b hb => hb)))
  have L0 := hide (HX.out.mono (SameOn.of_below ((show Below _ _ _ by repeat (first | assumption | (with_reducible exact Below.refl _ _) | (with_reducible apply below_drewN) | (with_reducible apply Below.drew) | (with_reducible refine Below.alloc2_ ?_ (by first | assumption | exact Nat.le_refl _ | omega | (simp; done) | (simp; omega)) _) | (with_reducible refine Below.setCell ?_ (by first | assumption | exact Nat.le_refl _ | omega | (simp; done) | (simp; omega)) _) | (with_reducible refine Below.then2_ ?_ (by assumption) (by first | assumption | exact Nat.le_refl _ | omega | (simp; done) | (simp; omega))) | exact Below.drew (by assumption) | exact Below.drew (Below.refl _ _))) : Below w.heap.size w W) HF.out))
  have hBW : Below w.heap.size w W := (show Below _ _ _ by repeat (first | assumption | (with_reducible exact Below.refl _ _) | (with_reducible apply below_drewN) | (with_reducible apply Below.drew) | (with_reducible refine Below.alloc2_ ?_ (by first | assumption | exact Nat.le_refl _ | omega | (simp; done) | (simp; omega)) _) | (with_reducible refine Below.setCell ?_ (by first | assumption | exact Nat.le_refl _ | omega | (simp; done) | (simp; omega)) _) | (with_reducible refine Below.then2_ ?_ (by assumption) (by first | assumption | exact Nat.le_refl _ | omega | (simp; done) | (simp; omega))) | exact Below.drew (by assumption) | exact Below.drew (Below.refl _ _)))
  clear HS2 HS3 HS4 HS5 HS6
  have H3 := hide h36
  have H4 := hide h46
  have H5 := hide h5
  clear h36 h46 h5
  subst hW
  go_wp2_with fail
  refine (samePairs_calls (psOf (pairsF xs)) _ _ _ _ _ _ _ L3.out L4.out).mono ?_
  rintro e w7 ⟨rfl, m7, rfl⟩
  go_wp2_with fail
  refine (sameVals_calls (busyOf xs (psOf (pairsF xs))) _ _ _ _ _ _ _ (L5.out.drewN _) (L6.out.drewN _)).mono ?_
  rintro e w8 ⟨rfl, m8, rfl⟩
  go_wp2_with fail
  refine (sameEvents_calls xs _ _ rfl rfl _ _ _ _ _ _ _ (L2.out.drewN _) (L0.out.drewN _)).mono ?_
  rintro e w9 ⟨rfl, m9, rfl⟩
  go_wp2_with fail
  go_ret
  exact ⟨by first | rfl | (simp; done), (show Below _ _ _ by repeat (first | assumption | (with_reducible exact Below.refl _ _) | (with_reducible apply below_drewN) | (with_reducible apply Below.drew) | (with_reducible refine Below.alloc2_ ?_ (by first | assumption | exact Nat.le_refl _ | omega | (simp; done) | (simp; omega)) _) | (with_reducible refine Below.setCell ?_ (by first | assumption | exact Nat.le_refl _ | omega | (simp; done) | (simp; omega)) _) | (with_reducible refine Below.then2_ ?_ (by assumption) (by first | assumption | exact Nat.le_refl _ | omega | (simp; done) | (simp; omega))) | exact Below.drew (by assumption) | exact Below.drew (Below.refl _ _)))⟩
end Go.Proofs.Ytjjmedgibcffhaa
