/- assizelaw04.PairApart, walked. -/
import Derived.Test.YtjjmedgibcffhaaApart
import Derived.Test.YtjjmedgibcffhaaBusy
import Derived.Test.YtjjmedgibcffhaaLex
namespace Go.Proofs.Ytjjmedgibcffhaa
open Go.RowKit Go.MapKept
set_option linter.unusedSimpArgs false
set_option linter.unusedVariables false

/-- The cells of an event. -/
structure EvC where
  p : Int
  k : Int
  A : Option Addr
  n : Nat
  c : Nat
def encE (e : EvC) : List Value := [.int .i64 e.p, .int .i64 e.k, .slice e.A e.n e.c]
theorem encE_len (e : EvC) : (encE e).length = 3 := rfl
theorem encE_one (e : EvC) : ∀ u ∈ encE e, u.oneCell' = true := by
  intro u hu
  simp [encE] at hu
  rcases hu with rfl | rfl | rfl <;> rfl
def encN (x : Nat) : List Value := [.int .i64 x]
theorem encN_len (x : Nat) : (encN x).length = 1 := rfl
theorem encN_one (x : Nat) : ∀ u ∈ encN x, u.oneCell' = true := by
  intro u hu
  simp [encN] at hu
  subst hu
  rfl
theorem info24 : (Try.prog.info? 24).map (fun i => (i.zero, i.size, i.bytes)) = some (some (.agg #[.int .i64 0, .int .i64 0, .slice none 0 0]), 3, 40) := by kernel_rfl
theorem info3 : (Try.prog.info? 3).map (fun i => (i.zero, i.size, i.bytes)) = some (some (.int .i64 0), 1, 8) := by kernel_rfl

theorem events_cells {F : Nat → Prop} {w : World} {A : Option Addr} {xs : List EventD} (h : Ty.event.Sl F w A xs) :
    ∃ ce : Nat → EvC, (∀ i (hi : i < xs.length), (ce i).p = xs[i].proc ∧ Ty.event.K F w (encE (ce i)) xs[i]) ∧ ∀ i, i < xs.length → ∃ b o, A = some ⟨b, o, none⟩ ∧ F b ∧
      w.cell? ⟨b, o + i * 3, none⟩ = some (.int .i64 (ce i).p) ∧ w.cell? ⟨b, o + i * 3 + 1, none⟩ = some (.int .i64 (ce i).k) ∧ w.cell? ⟨b, o + i * 3 + 2, none⟩ = some (.slice (ce i).A (ce i).n (ce i).c) := by
  have h1 : ∀ i : Nat, ∃ c : EvC, ∀ hi : i < xs.length, (c.p = xs[i].proc ∧ Ty.event.K F w (encE c) xs[i]) ∧ ∃ b o, A = some ⟨b, o, none⟩ ∧ F b ∧
      w.cell? ⟨b, o + i * 3, none⟩ = some (.int .i64 c.p) ∧ w.cell? ⟨b, o + i * 3 + 1, none⟩ = some (.int .i64 c.k) ∧ w.cell? ⟨b, o + i * 3 + 2, none⟩ = some (.slice c.A c.n c.c) := by
    intro i
    by_cases hi : i < xs.length
    · obtain ⟨b, o, A', c', hA, hF, hs, h0, h1, h2⟩ := h.event_at i hi
      exact ⟨⟨xs[i].proc, xs[i].kind, A', xs[i].calls.length, c'⟩, fun _ => ⟨⟨rfl, A', c', rfl, hs⟩, b, o, hA, hF, h0, h1, h2⟩⟩
    · exact ⟨⟨0, 0, none, 0, 0⟩, fun x => absurd x hi⟩
  exact ⟨fun i => (h1 i).choose, fun i hi => ((h1 i).choose_spec hi).1, fun i hi => ((h1 i).choose_spec hi).2⟩

theorem own_events {F G : Nat → Prop} {xs : List EventD} {ce : Nat → EvC} {at_ : List Nat} {w : World} {base : Nat} {v : Value} (hat : ∀ i ∈ at_, i < xs.length) (hK : ∀ i (hi : i < xs.length), Ty.event.K F w (encE (ce i)) xs[i])
    (h : w.ownsRow base 24 3 v (at_.map ce).length ((at_.map ce).flatMap encE)) (hG : ∀ b, base ≤ b → b < w.heap.size → G b) (hFG : ∀ b, F b → G b) (hl : at_.length * 40 ≤ 140737488351232) :
    ∃ A c, v = .slice A at_.length c ∧ Ty.event.Sl G w A (at_.map (ev xs)) := by
  rcases Nat.eq_zero_or_pos at_.length with h0 | h0
  · obtain ⟨A, c, rfl⟩ := own_shape h
    refine ⟨A, c, by simp, by simpa [Ty.event] using hl, .inl ?_⟩
    rw [List.eq_nil_of_length_eq_zero h0]; rfl
  · obtain ⟨g, cap, rfl, hb, hg, hc, hcell, _⟩ := own_slice h (by simpa using h0)
    refine ⟨_, cap, by simp, by simpa [Ty.event] using hl, .inr ⟨g, 0, rfl, hG g hb hg, fun i x hi => ?_⟩⟩
    obtain ⟨hil, rfl⟩ := List.getElem?_eq_some_iff.1 hi
    have hil2 : i < at_.length := by simpa using hil
    have hm := hat _ (List.getElem_mem hil2)
    refine ⟨encE (ce at_[i]), ?_, fun j v hv => ?_⟩
    · rw [List.getElem_map, ev_eq hm]
      exact Ty.event.weak (hK _ hm) hFG
    · have hj : j < 3 := by
        have := (List.getElem?_eq_some_iff.1 hv).1
        rwa [encE_len] at this
      have := hcell (i * 3 + j) v (by rw [flat_get encE_len (at_.map ce) i j (by simpa using hil2) hj, List.getElem_map]; exact hv)
      simpa [Ty.event] using this
theorem own_nat {w : World} {base : Nat} {v : Value} {ns : List Nat} (h : w.ownsRow base 3 1 v ns.length (ns.flatMap encN)) (i : Nat) (hi : i < ns.length) : ∃ g cap, v = .slice (some ⟨g, 0, none⟩) ns.length cap ∧ base ≤ g ∧ g < w.heap.size ∧ ∀ j (hj : j < ns.length), w.cell? ⟨g, j, none⟩ = some (.int .i64 ns[j]) := by
  obtain ⟨g, cap, rfl, hb, hg, hc, hcell, _⟩ := own_slice h (by omega)
  refine ⟨g, cap, rfl, hb, hg, fun j hj => hcell j _ ?_⟩
  have := flat_get encN_len ns j 0 hj (by omega)
  simpa [encN] using this

structure ARel (xs : List EventD) (ce : Nat → EvC) (pr : Int) (W wr : World) (ov av : Value) (i : Nat) : Prop where
  o : wr.ownsRow W.heap.size 24 3 ov ((atOf xs pr i).map ce).length (((atOf xs pr i).map ce).flatMap encE)
  a : wr.ownsRow W.heap.size 3 1 av (atOf xs pr i).length ((atOf xs pr i).flatMap encN)
  ne : ∀ b, ov.ownBlock = some b → av.ownBlock ≠ some b
  below : Below W.heap.size W wr
theorem ARel.yes {xs : List EventD} {ce : Nat → EvC} {pr : Int} {W wr w3 w5 : World} {ov av ov' av' : Value} {i : Nat} (h : ARel xs ce pr W wr ov av i) (hp : (ev xs i).proc = pr)
    (h3 : w3.ownsRow W.heap.size 24 3 ov' ((atOf xs pr i).map ce ++ [ce i]).length (((atOf xs pr i).map ce ++ [ce i]).flatMap encE)) (k3 : Keep (fun k => ov.ownBlock = some k) wr w3) (t3 : ov'.ownBlock = ov.ownBlock ∨ ∃ b, ov'.ownBlock = some b ∧ wr.heap.size ≤ b)
    (h5 : w5.ownsRow W.heap.size 3 1 av' (atOf xs pr i ++ [i]).length ((atOf xs pr i ++ [i]).flatMap encN)) (k5 : Keep (fun k => av.ownBlock = some k) w3 w5) (t5 : av'.ownBlock = av.ownBlock ∨ ∃ b, av'.ownBlock = some b ∧ w3.heap.size ≤ b) :
    ARel xs ce pr W w5 ov' av' (i + 1) := by
  have hav : ∀ k, av.ownBlock = some k → k < wr.heap.size := fun k hk => (h.a.lt k hk).2
  have hov' : ∀ k, ov'.ownBlock = some k → k < w3.heap.size := fun k hk => (h3.lt k hk).2
  have n1 : ∀ k, ov'.ownBlock = some k → ¬ av.ownBlock = some k := by
    intro k hk e
    rcases t3 with t | ⟨b, t, hb⟩
    · exact h.ne k (t ▸ hk) e
    · have := hav k e
      rw [t] at hk
      injection hk with hk
      omega
  refine ⟨?_, ?_, ?_, ?_⟩
  · rw [atOf_yes hp, List.map_append]
    exact own_keep h3 k5 n1
  · rw [atOf_yes hp]; exact h5
  · intro b hb e
    rcases t5 with t | ⟨b', t, hb'⟩
    · exact n1 b hb (t ▸ e)
    · have := hov' b hb
      rw [t] at e
      injection e with e
      omega
  · have hsz := h.below.size
    exact Below.keep_ (Below.keep_ h.below k3 hsz (fun k hk => (h.o.lt k hk).1)) k5 (by have := k3.size; omega) (fun k hk => (h.a.lt k hk).1)
theorem ARel.no {xs : List EventD} {ce : Nat → EvC} {pr : Int} {W wr : World} {ov av : Value} {i : Nat} (h : ARel xs ce pr W wr ov av i) (hp : (ev xs i).proc ≠ pr) : ARel xs ce pr W wr ov av (i + 1) := by
  refine ⟨?_, ?_, h.ne, h.below⟩
  · rw [atOf_no hp]; exact h.o
  · rw [atOf_no hp]; exact h.a
theorem atOf_le (l : List EventD) (pr : Int) (j : Nat) : (atOf l pr j).length ≤ j := by
  have := List.length_filter_le (fun i => (ev l i).proc == pr) (List.range j)
  simpa [atOf] using this

set_option maxHeartbeats 4000000 in
set_option maxRecDepth 100000 in
theorem apart_calls (xs : List EventD) (pr : Int) (F : Nat → Prop) (w : World) (A : Option Addr) (c : Nat) (hx : Ty.event.Sl F w A xs) (hF : ∀ b, F b → b < w.heap.size) :
    Calls Try.prog 6 #[.slice A xs.length c, .int .i64 pr] w fun e w' => e = .returned (.bool true) ∧ Below w.heap.size w w' := by
  have HX := hide hx
  clear hx
  have HF := hide hF
  clear hF
  have hlen := HX.out.len_le (by decide)
  go_enter Try.func6, Try.ntmps6
  go_wp2_with fail
  go_at_call 16
  refine (alive4_calls _).mono ?_
  rintro e w1 ⟨rfl, hb1⟩
  have hz1 := hb1.size
  go_wp2_with fail
  go_at_call 19
  refine (pairs_res xs F _ _ _ (HX.out.mono (SameOn.of_below (show Below _ _ _ by repeat (first | assumption | (with_reducible exact Below.refl _ _) | (with_reducible apply below_drewN) | (with_reducible apply Below.drew) | (with_reducible refine Below.alloc2_ ?_ (by first | assumption | exact Nat.le_refl _ | omega | (simp; done) | (simp; omega)) _) | (with_reducible refine Below.setCell ?_ (by first | assumption | exact Nat.le_refl _ | omega | (simp; done) | (simp; omega)) _) | (with_reducible refine Below.then2_ ?_ (by assumption) (by first | assumption | exact Nat.le_refl _ | omega | (simp; done) | (simp; omega))) | exact Below.drew (by assumption) | exact Below.drew (Below.refl _ _))) HF.out)) (fun b hb => by have := HF.out b hb; omega)).mono ?_
  rintro e w2 ⟨A2, c2, rfl, hs2, hb2⟩
  have hz2 := hb2.size
  have HS2 := hide hs2
  clear hs2
  rcases flOf_cases xs with ⟨h1, ps, h2⟩ | h3
  · have e1 : (flOf (pairsF xs)).1 = 0 := by rw [h1]
    obtain ⟨qs, oq, hq1, hq2, hq3⟩ := apartF h2 pr
    have hx256 := listOk_len (pairsF_ok h2).1
    have hps : psOf (pairsF xs) = ps := by rw [h2]; rfl
    have hpl := psOf_len xs
    have hpf := hide (psOf_from xs)
    rw [hps] at hpl HS2 hpf ⊢
    clear h1 hps
    have H2 := hide h2
    clear h2
    have HQ1 := hide hq1
    have HQ2 := hide hq2
    have HQ3 := hide hq3
    clear hq1 hq2 hq3
    go_wp2
    obtain ⟨W, hW⟩ : ∃ W, W = w2.alloc (.cells #[.int .i64 0, .int .i64 (flOf (pairsF xs)).2] 31) := ⟨_, rfl⟩
    rw [← hW]
    have hbW : Below w2.heap.size w2 W := by rw [hW]; exact (show Below _ _ _ by repeat (first | assumption | (with_reducible exact Below.refl _ _) | (with_reducible apply below_drewN) | (with_reducible apply Below.drew) | (with_reducible refine Below.alloc2_ ?_ (by first | assumption | exact Nat.le_refl _ | omega | (simp; done) | (simp; omega)) _) | (with_reducible refine Below.setCell ?_ (by first | assumption | exact Nat.le_refl _ | omega | (simp; done) | (simp; omega)) _) | (with_reducible refine Below.then2_ ?_ (by assumption) (by first | assumption | exact Nat.le_refl _ | omega | (simp; done) | (simp; omega))) | exact Below.drew (by assumption) | exact Below.drew (Below.refl _ _)))
    have hbw : Below w.heap.size w W := by rw [hW]; exact (show Below _ _ _ by repeat (first | assumption | (with_reducible exact Below.refl _ _) | (with_reducible apply below_drewN) | (with_reducible apply Below.drew) | (with_reducible refine Below.alloc2_ ?_ (by first | assumption | exact Nat.le_refl _ | omega | (simp; done) | (simp; omega)) _) | (with_reducible refine Below.setCell ?_ (by first | assumption | exact Nat.le_refl _ | omega | (simp; done) | (simp; omega)) _) | (with_reducible refine Below.then2_ ?_ (by assumption) (by first | assumption | exact Nat.le_refl _ | omega | (simp; done) | (simp; omega))) | exact Below.drew (by assumption) | exact Below.drew (Below.refl _ _)))
    have hzW : w2.heap.size < W.heap.size := by rw [hW]; simp
    obtain ⟨ce, hce, hcc⟩ := events_cells (HX.out.mono (w' := W) (fun b hb' => hbw.block b (HF.out b hb')))
    have HCE := hide hce
    have HCC := hide hcc
    clear hW hce hcc e1
    go_loopw [7, 8, 9] (fun ov av iv wr => ∃ (i : Nat), i ≤ xs.length ∧ iv = .int .i64 i ∧ Hid (ARel xs ce pr W wr ov av i)) (fun _ _ i _ => xs.length - (intOf i).toNat)
    case atStart => exact ⟨0, by omega, rfl, ⟨rfl, .inl ⟨rfl, rfl⟩⟩, ⟨rfl, .inl ⟨rfl, rfl⟩⟩, by simp [Value.ownBlock], Below.refl _ _⟩
    case round =>
      obtain ⟨i, hi, rfl, hrel⟩ := hrel
      have hbr := hrel.out.below
      have hsz := hbr.size
      by_cases hlt : i < xs.length
      · obtain ⟨bx, ox, rfl, hFx, hx0, hx1, hx2⟩ := HCC.out i hlt
        have hbx : bx < W.heap.size := by have := HF.out bx hFx; have := hbw.size; omega
        have hcl := (bcell hbr).1
        rw [← hcl _ _ hbx] at hx0 hx1 hx2
        clear hcl
        have hbx2 : bx < wr.heap.size := by omega
        have hev := hide (show (ev xs i).proc = (ce i).p by rw [ev_eq hlt]; exact (HCE.out i hlt).1.symm)
        have hi0 : (0 : Int) ≤ (i : Int) := Int.natCast_nonneg _
        have hi1 : (i : Int) < (xs.length : Int) := by omega
        have hatl := atOf_le xs pr i
        by_cases hp : (ce i).p = pr
        · have hp1 : ((ce i).p == pr) = true := by simpa using hp
          have HP := hide hp
          clear hp
          go_wp2_with (first
            | (at_builtin; refine wp_append_at (enc := encE) encE_len encE_one (W := wr) W.heap.size rfl _ _ 27 24 _ 40 rfl Try.underlying27 info24 rfl (by decide) (by decide) u7 ((atOf xs pr i).map ce) (ce i) _ rfl rfl rfl hrel.out.o (by omega) (by simp; omega) ?_; intro v3 w3 hown3 hk3 hat3 hs3; have HO3 := hide hown3; have HK3 := hide hk3; have HA3 := hide hat3; clear hown3 hk3 hat3)
            | (at_builtin; refine wp_append_at (enc := encN) encN_len encN_one (W := w3) W.heap.size rfl _ _ 41 3 _ 8 rfl Try.underlying41 info3 rfl (by decide) (by decide) u8 (atOf xs pr i) i _ rfl rfl rfl (own_keep hrel.out.a HK3.out (fun k hk e => hrel.out.ne k e hk)) (by omega) (by omega) ?_; intro v5 w5 hown5 hk5 hat5 hs5))
          have h5 := ARel.yes hrel.out (hev.out.trans HP.out) HO3.out HK3.out HA3.out hown5 hk5 hat5
          first | exact ⟨⟨i + 1, by omega, by go_num, h5⟩, by simp [intOf]; omega⟩ | exact ⟨by ((repeat apply Exists.intro); refine ⟨?_, rfl⟩; exact ⟨i + 1, by omega, by go_num, h5⟩), by simp [intOf]; omega⟩
        · have hp1 : ((ce i).p == pr) = false := by simpa using hp
          have h5 := hide (ARel.no hrel.out (by rw [hev.out]; exact hp))
          clear hp
          go_wp2
          first | exact ⟨⟨i + 1, by omega, by go_num, h5.out⟩, by simp [intOf]; omega⟩ | exact ⟨by ((repeat apply Exists.intro); refine ⟨?_, rfl⟩; exact ⟨i + 1, by omega, by go_num, h5.out⟩), by simp [intOf]; omega⟩
      · obtain rfl : i = xs.length := by omega
        obtain ⟨N, hN⟩ : ∃ N, N = atOf xs pr xs.length := ⟨_, rfl⟩
        have ho := hrel.out.o
        have ha := hrel.out.a
        rw [← hN] at ho ha
        have hNm : ∀ i ∈ N, i < xs.length := by
          intro i hi
          rw [hN] at hi
          unfold atOf at hi
          simpa using (List.mem_filter.1 hi).1
        have hNl : N.length ≤ xs.length := by rw [hN]; exact atOf_le xs pr xs.length
        obtain ⟨Ao, co, rfl, hso⟩ := own_events (F := F) (G := fun b => b < wr.heap.size) hNm (fun i hi => Ty.event.mono (HCE.out i hi).2 (fun b hb => hbr.block b (by have := HF.out b hb; have := hbw.size; omega))) ho (fun b _ hb => hb) (fun b hb => by have := HF.out b hb; have := hbw.size; omega) (by omega)
        obtain ⟨A8, c8, rfl⟩ := own_shape ha
        have hown : N.map (ev xs) = ownOf xs pr xs.length := by rw [hN]; rfl
        rw [hown] at hso
        have hol : (ownOf xs pr xs.length).length = N.length := by rw [ownOf_len, ← hN]
        have hq2 := HQ2.out
        have hq3 := HQ3.out
        rw [← hN] at hq2 hq3
        have HQ2' := hide hq2
        have HQ3' := hide hq3
        have HSO := hide hso
        have HA := hide ha
        have HNM := hide hNm
        have HOL := hide hol
        clear hq2 hq3 HQ2 HQ3 hso ha hown hol hrel hNm hN ho
        go_wp2_with fail
        go_at_call 19
        refine (pairs_res_n (ownOf xs pr xs.length) N.length HOL.out (fun b => b < wr.heap.size) wr Ao co HSO.out (fun b hb => hb)).mono ?_
        rintro e w5 ⟨A5, c5, rfl, hs5, hb5⟩
        have hz5 := hb5.size
        have e2 : psOf (pairsF (ownOf xs pr xs.length)) = qs := by rw [HQ1.out]; rfl
        have e3 : (flOf (pairsF (ownOf xs pr xs.length))).1 = 0 := by rw [HQ1.out]; rfl
        rw [e2] at hs5 ⊢
        clear e2
        have HS5 := hide hs5
        clear hs5
        go_wp2
        obtain ⟨W5, hW5⟩ : ∃ W5, W5 = w5.alloc (.cells #[.int .i64 0, .int .i64 (flOf (pairsF (ownOf xs pr xs.length))).2] 31) := ⟨_, rfl⟩
        rw [← hW5]
        have hb5W : Below w5.heap.size w5 W5 := by rw [hW5]; exact (show Below _ _ _ by repeat (first | assumption | (with_reducible exact Below.refl _ _) | (with_reducible apply below_drewN) | (with_reducible apply Below.drew) | (with_reducible refine Below.alloc2_ ?_ (by first | assumption | exact Nat.le_refl _ | omega | (simp; done) | (simp; omega)) _) | (with_reducible refine Below.setCell ?_ (by first | assumption | exact Nat.le_refl _ | omega | (simp; done) | (simp; omega)) _) | (with_reducible refine Below.then2_ ?_ (by assumption) (by first | assumption | exact Nat.le_refl _ | omega | (simp; done) | (simp; omega))) | exact Below.drew (by assumption) | exact Below.drew (Below.refl _ _)))
        have hzW5 : w5.heap.size < W5.heap.size := by rw [hW5]; simp
        clear hW5 e3
        have hbW5 : Below W.heap.size W W5 := (hbr.trans (hb5.mono hsz)).trans (hb5W.mono (by omega))
        have hbwW5 : Below w.heap.size w W5 := hbw.trans (hbW5.mono (by have := hbw.size; omega))
        go_loopw [12, 13] (fun kv iv wr2 => ∃ (i : Nat), i ≤ ps.length ∧ iv = .int .i64 i ∧ kv = .int .i64 (((ps.take i).filter (isOf xs pr)).length : Nat) ∧ Hid (∃ n, wr2 = World.drewN W5 n)) (fun _ i _ => ps.length - (intOf i).toNat)
        case atStart => exact ⟨0, by omega, rfl, rfl, 0, rfl⟩
        case round =>
          obtain ⟨j, hj, rfl, rfl, hw⟩ := hrel
          obtain ⟨n, rfl⟩ := hw.out
          clear hw
          have hqp : qs.length = (ps.filter (isOf xs pr)).length := by rw [← HQ3'.out]; simp
          have HQP := hide hqp
          clear hqp
          by_cases hlt2 : j < ps.length
          · obtain ⟨b, o, rfl, hFb, hc0, hc1, hc2⟩ := (HS2.out.mono (w' := W5) (fun b hb' => (hbW5.block b (by have := hb'.2; omega)).trans (hbW.block b hb'.2))).pair_at j hlt2
            have hfr := hpf.out j hlt2
            have hnx := filter_next (isOf xs pr) ps j hlt2
            obtain ⟨k, hk⟩ : ∃ k, k = ((ps.take j).filter (isOf xs pr)).length := ⟨_, rfl⟩
            have hpl := filter_place (isOf xs pr) ps j hlt2
            rw [← hk] at hnx hpl ⊢
            obtain ⟨f, hf⟩ : ∃ f, f = ps[j].from_ := ⟨_, rfl⟩
            rw [← hf] at hc0 hfr
            obtain ⟨bx, ox, rfl, hFx, hx0, -, -⟩ := HCC.out f hfr
            have hbx : bx < W.heap.size := by have := HF.out bx hFx; have := hbw.size; omega
            have hcl := (bcell hbW5).1
            rw [← hcl _ _ hbx] at hx0
            clear hcl
            have hf0 : (0 : Int) ≤ (f : Int) := Int.natCast_nonneg _
            have hf1 : (f : Int) < (xs.length : Int) := by omega
            have hj0 : (0 : Int) ≤ (j : Int) := Int.natCast_nonneg _
            have hj1 : (j : Int) < (ps.length : Int) := by omega
            have hd1 : decide ((f : Int) < 0) = false := decide_eq_false (by omega)
            have hd2 : decide (xs.length ≤ f) = false := decide_eq_false (by omega)
            have hpc := (HCE.out f hfr).1
            rw [← ev_eq hfr, hf] at hpc
            rw [← hf] at hpc
            by_cases hp : (ce f).p = pr
            · have hp1 : ((ce f).p != pr) = false := by simpa using hp
              have his : isOf xs pr ps[j] = true := by unfold isOf; rw [← hf, ← hpc, hp]; simp
              rw [if_pos his] at hnx
              have hpl2 := hpl his
              rw [← HQ3'.out, List.getElem?_map] at hpl2
              have hkq : k < qs.length := by
                rcases Nat.lt_or_ge k qs.length with h | h
                · exact h
                · rw [List.getElem?_eq_none h] at hpl2; cases hpl2
              rw [List.getElem?_eq_getElem hkq] at hpl2
              have hli : liftP N qs[k] = ps[j] := by simpa using hpl2
              have hqf := (HQ2'.out.frm k hkq).1
              have hqt := HQ2'.out.to_ k hkq
              obtain ⟨b5, o5, rfl, hF5, hq0, hq1, hq2⟩ := (HS5.out.mono (w' := W5) (fun b hb' => hb5W.block b hb'.2)).pair_at k hkq
              obtain ⟨g, cap, eg, -, hg, hgc⟩ := own_nat (own_below (own_below HA.out hb5) hb5W) qs[k].from_ hqf
              obtain ⟨rfl, rfl⟩ : A8 = some ⟨g, 0, none⟩ ∧ c8 = cap := by injection eg with a b c; exact ⟨a, c⟩
              clear eg
              obtain ⟨qf, hqfe⟩ : ∃ qf, qf = qs[k].from_ := ⟨_, rfl⟩
              rw [← hqfe] at hq0 hqf
              have hn0 := hgc qf hqf
              have hN0 : N[qf] = f := by
                have h : N.getD qf 0 = f := by rw [hqfe, hf, ← hli]; rfl
                rw [List.getD_eq_getElem?_getD, List.getElem?_eq_getElem hqf] at h
                exact h
              rw [hN0] at hn0
              have hst : ps[j].status = qs[k].status := by rw [← hli]; rfl
              rw [hst] at hc2
              have hto : ps[j].to_ = if qs[k].to_ < 0 then qs[k].to_ else (N.getD qs[k].to_.toNat 0 : Nat) := by rw [← hli]; rfl
              have hk0 : (0 : Int) ≤ (k : Int) := Int.natCast_nonneg _
              have hk1 : (k : Int) < (qs.length : Int) := by omega
              have hq0' : (0 : Int) ≤ (qf : Int) := Int.natCast_nonneg _
              have hq1' : (qf : Int) < (N.length : Int) := by omega
              have hd3 : decide (qs.length ≤ k) = false := decide_eq_false (by omega)
              have hd4 : decide ((qf : Int) < 0) = false := decide_eq_false (by omega)
              have hd5 : decide (N.length ≤ qf) = false := decide_eq_false (by omega)
              have hkb : k < 1000 := by have := HQP.out; have := List.length_filter_le (isOf xs pr) ps; omega
              have HG := hide hgc
              have HNX := hide hnx
              rcases hqt with ⟨ht1, ht2⟩ | ⟨t, ht1, -, ht2, -⟩
              · rw [if_pos (by omega), ht1] at hto
                rw [hto] at hc1
                rw [ht1] at hq1
                have hd6 : decide ((N.length : Int) ≤ -1) = false := decide_eq_false (by omega)
                clear hgc hnx hk hpl hf hpc hp his hpl2 hli hqfe hN0 hst hto ht1 ht2
                go_wp2
                refine wp_region_quiet_lit (by kernel_rfl) (lexB_of_chk (by kernel_rfl) (by kernel_rfl)) ?_
                simp only [List.append_eq, List.cons_append, List.nil_append]
                (repeat (go_big_quiet_step (fail)))
                refine wpQuiet_nil ?_
                intro _ hw'
                obtain ⟨nq, hw''⟩ := hw'
                subst hw''
                go_wp2
                first | exact ⟨⟨j + 1, by omega, by go_num, by rw [HNX.out]; go_num, _, rfl⟩, by simp [intOf]; omega⟩ | exact ⟨by ((repeat apply Exists.intro); refine ⟨?_, rfl⟩; exact ⟨j + 1, by omega, by go_num, by rw [HNX.out]; go_num, _, rfl⟩), by simp [intOf]; omega⟩
              · rw [if_neg (by omega), ht1] at hto
                have hNt : N.getD ((t : Int)).toNat 0 = N[t] := by
                  rw [List.getD_eq_getElem?_getD, List.getElem?_eq_getElem (by omega)]
                  rfl
                rw [hNt] at hto
                rw [hto] at hc1
                rw [ht1] at hq1
                have hn1 := hgc t ht2
                obtain ⟨nt, hnt⟩ : ∃ nt, nt = N[t] := ⟨_, rfl⟩
                rw [← hnt] at hn1 hc1
                have hd6 : decide (N.length ≤ t) = false := decide_eq_false (by omega)
                have hd7 : decide ((0 : Int) ≤ (t : Int)) = true := decide_eq_true (by omega)
                have hd8 : decide ((t : Int) < 0) = false := decide_eq_false (by omega)
                have ht0 : (0 : Int) ≤ (t : Int) := Int.natCast_nonneg _
                have ht3 : (t : Int) < (N.length : Int) := by omega
                clear hgc hnx hk hpl hf hpc hp his hpl2 hli hqfe hN0 hst hto ht1 hNt hnt
                go_wp2
                refine wp_region_quiet_lit (by kernel_rfl) (lexB_of_chk (by kernel_rfl) (by kernel_rfl)) ?_
                simp only [List.append_eq, List.cons_append, List.nil_append]
                (repeat (go_big_quiet_step (fail)))
                refine wpQuiet_nil ?_
                intro _ hw'
                obtain ⟨nq, hw''⟩ := hw'
                subst hw''
                go_wp2
                first | exact ⟨⟨j + 1, by omega, by go_num, by rw [HNX.out]; go_num, _, rfl⟩, by simp [intOf]; omega⟩ | exact ⟨by ((repeat apply Exists.intro); refine ⟨?_, rfl⟩; exact ⟨j + 1, by omega, by go_num, by rw [HNX.out]; go_num, _, rfl⟩), by simp [intOf]; omega⟩
            · have hp1 : ((ce f).p != pr) = true := by simpa using hp
              have his : ¬ isOf xs pr ps[j] = true := by unfold isOf; rw [← hf, ← hpc]; simpa using hp
              rw [if_neg his] at hnx
              have HNX := hide hnx
              clear hnx hk hpl hf hpc hp his
              go_wp2
              first | exact ⟨⟨j + 1, by omega, by go_num, by rw [HNX.out, Nat.add_zero], _, rfl⟩, by simp [intOf]; omega⟩ | exact ⟨by ((repeat apply Exists.intro); refine ⟨?_, rfl⟩; exact ⟨j + 1, by omega, by go_num, by rw [HNX.out, Nat.add_zero], _, rfl⟩), by simp [intOf]; omega⟩
          · obtain rfl : j = ps.length := by omega
            have hk := HQP.out
            rw [List.take_length, ← hk]
            clear hk
            go_wp2
            go_ret
            exact ⟨by first | rfl | (simp; done), (show Below _ _ _ by repeat (first | assumption | (with_reducible exact Below.refl _ _) | (with_reducible apply below_drewN) | (with_reducible apply Below.drew) | (with_reducible refine Below.alloc2_ ?_ (by first | assumption | exact Nat.le_refl _ | omega | (simp; done) | (simp; omega)) _) | (with_reducible refine Below.setCell ?_ (by first | assumption | exact Nat.le_refl _ | omega | (simp; done) | (simp; omega)) _) | (with_reducible refine Below.then2_ ?_ (by assumption) (by first | assumption | exact Nat.le_refl _ | omega | (simp; done) | (simp; omega))) | exact Below.drew (by assumption) | exact Below.drew (Below.refl _ _)))⟩
  · have e1 : ((flOf (pairsF xs)).1 != 0) = true := by
      rcases h3 with ⟨h1, _⟩ | ⟨j, h1, _⟩ <;> rw [h1] <;> rfl
    have hps : (psOf (pairsF xs)).length = 0 := by
      rcases h3 with ⟨_, h1⟩ | ⟨j, _, h1, _⟩ <;> rw [h1] <;> rfl
    clear h3
    go_wp2
    go_ret
    exact ⟨by first | rfl | (simp; done), (show Below _ _ _ by repeat (first | assumption | (with_reducible exact Below.refl _ _) | (with_reducible apply below_drewN) | (with_reducible apply Below.drew) | (with_reducible refine Below.alloc2_ ?_ (by first | assumption | exact Nat.le_refl _ | omega | (simp; done) | (simp; omega)) _) | (with_reducible refine Below.setCell ?_ (by first | assumption | exact Nat.le_refl _ | omega | (simp; done) | (simp; omega)) _) | (with_reducible refine Below.then2_ ?_ (by assumption) (by first | assumption | exact Nat.le_refl _ | omega | (simp; done) | (simp; omega))) | exact Below.drew (by assumption) | exact Below.drew (Below.refl _ _)))⟩
end Go.Proofs.Ytjjmedgibcffhaa
