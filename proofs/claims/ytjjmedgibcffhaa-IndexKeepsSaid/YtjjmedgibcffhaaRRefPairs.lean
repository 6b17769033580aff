/- ref04.Pairs, walked: it answers what pair.Pairs answers. -/
import Derived.Test.YtjjmedgibcffhaaRPairInv
import Derived.Test.YtjjmedgibcffhaaRRc
import Derived.Test.YtjjmedgibcffhaaRRefMatch
namespace Go.Proofs.Ytjjmedgibcffhaa
open Go.RowKit Go.MapKept
set_option linter.unusedSimpArgs false
set_option linter.unusedVariables false

/-- What holds at the head of a round. -/
structure RRel (l : List EventD) (w : World) (v : Value) (wr : World) (j : Nat) (ps : List PairD) (op : Int → Option Nat) : Prop where
  st : pairsSt l j = .ok (ps, op)
  own : wr.ownsRow w.heap.size 37 3 v ps.length (ps.flatMap encP)
  ne : ∀ k, v.ownBlock = some k → k ≠ w.heap.size
  r : RCells w.heap.size wr
  bel : Below w.heap.size w wr
theorem RRel.same {l : List EventD} {w : World} {v : Value} {wr w3 : World} {j : Nat} {ps : List PairD} {op : Int → Option Nat} (h : RRel l w v wr j ps op) (hk : Keep (fun _ => False) wr w3) : RRel l w v w3 j ps op :=
  ⟨h.st, own_keep h.own hk (fun _ _ => id), h.ne, h.r.keep hk id, Below.keep_ h.bel hk h.bel.size (fun _ => False.elim)⟩
theorem RRel.bad {l : List EventD} {w : World} {v : Value} {wr : World} {j : Nat} {ps : List PairD} {op : Int → Option Nat} (h : RRel l w v wr j ps op) (hok : listOk l = true) (hj : j < l.length)
    (hs : pairStep l j l[j] ps op = none) {w' : World} (hb : Below w.heap.size w w') : PairsPost w (pairsF l) (.returned (.tuple #[.slice none 0 0, .agg #[.int .i64 40, .int .i64 j]])) w' := by
  refine ⟨hb, ?_⟩
  have h1 : pairsSt l (j + 1) = .error j := by rw [pairsSt_succ h.st hj, hs]
  rw [pairsF, if_pos hok, pairsSt_bad h1 l.length (by omega)]
theorem RRel.push {l : List EventD} {w : World} {v v3 : Value} {wr w3 : World} {j : Nat} {ps : List PairD} {op : Int → Option Nat} (h : RRel l w v wr j ps op) (hj : j < l.length)
    (hop : op l[j].proc = none) (hk : l[j].kind = 0)
    (hown : w3.ownsRow w.heap.size 37 3 v3 (ps ++ [(⟨j, -1, 3⟩ : PairD)]).length ((ps ++ [(⟨j, -1, 3⟩ : PairD)]).flatMap encP)) {w2 : World} (hb2 : Below wr.heap.size wr w2) (hk3 : Keep (fun k => v.ownBlock = some k) w2 w3) (hat : v3.ownBlock = v.ownBlock ∨ ∃ b, v3.ownBlock = some b ∧ w2.heap.size ≤ b) :
    ∃ ps' op', RRel l w v3 w3 (j + 1) ps' op' := by
  refine ⟨ps ++ [⟨j, -1, 3⟩], upd op l[j].proc (some ps.length), ?_, hown, ?_, ?_, ?_⟩
  · rw [pairsSt_succ h.st hj]
    simp only [pairStep, hop, hk, if_true]
  · intro k hk'
    rcases hat with hat | ⟨b, hb, hle⟩
    · exact h.ne k (hat ▸ hk')
    · rw [hb] at hk'
      injection hk' with hk'
      have := h.r.lt
      have := hb2.size
      omega
  · exact (h.r.keep (S := fun _ => False) (Keep.of_below hb2) id).keep hk3 (fun e => h.ne _ e rfl)
  · have hs := h.bel.size
    exact Below.keep_ (h.bel.trans (hb2.mono hs)) hk3 (Nat.le_trans hs hb2.size) (fun k hk => (h.own.lt k hk).1)
theorem RRel.set {l : List EventD} {w : World} {wr w2 : World} {j k f g cap : Nat} {ps : List PairD} {op : Int → Option Nat} (h : RRel l w (.slice (some ⟨g, 0, none⟩) ps.length cap) wr j ps op) (hj : j < l.length)
    (hop : op l[j].proc = some k) (hk : ¬ l[j].kind = 0) (hkp : k < ps.length) (hf : f = ps[k].from_) (hfl : f < l.length) (hm : matchB l[f] l[j] = true)
    (hw : w2.heap = ((wr.setCell ⟨g, k * 3 + 1, none⟩ (.int .i64 j)).setCell ⟨g, k * 3 + 2, none⟩ (.int .i64 l[j].kind)).heap) (hw' : Below 0 wr w2) :
    ∃ ps' op', ps'.length = ps.length ∧ RRel l w (.slice (some ⟨g, 0, none⟩) ps.length cap) w2 (j + 1) ps' op' := by
  have hgR := h.ne g rfl
  have hset : ∀ b, b ≠ g → w2.heap[b]? = wr.heap[b]? := by
    intro b hb
    rw [hw]
    rw [Below.heap_setCell _ _ _ _ hb, Below.heap_setCell _ _ _ _ hb]
  have hk2 : Keep (fun i => i = g) wr w2 := ⟨hw'.os, hw'.tape, hw'.output, hw'.size, fun b _ hb => hset b hb⟩
  refine ⟨ps.set k ⟨ps[k].from_, j, l[j].kind⟩, upd op l[j].proc none, by simp, ?_, ?_, h.ne, ?_, ?_⟩
  · rw [pairsSt_succ h.st hj]
    have h1 : ps[k]? = some ps[k] := List.getElem?_eq_getElem hkp
    have h2 : l[ps[k].from_]? = some l[f] := by rw [← hf]; exact List.getElem?_eq_getElem hfl
    simp only [pairStep, hop, hk, if_false, h1, h2, hm, if_true]
  · have e1 := (h.own.stored (k * 3 + 1) (.int .i64 j)).1
    have e2 := (e1.stored (k * 3 + 2) (.int .i64 l[j].kind)).1
    rw [flat_set encP_len ps k 1 ⟨ps[k].from_, j, ps[k].status⟩ _ hkp (by omega) rfl] at e2
    rw [flat_set encP_len _ k 2 ⟨ps[k].from_, j, l[j].kind⟩ _ (by simpa using hkp) (by omega) (by simp [encP])] at e2
    simp only [List.set_set, List.length_set] at e2 ⊢
    obtain ⟨a1, a2⟩ := e2
    refine ⟨a1, ?_⟩
    rcases a2 with ⟨a2, _⟩ | ⟨g', cap', cur, a2, a3, a4, a5⟩
    · cases a2
    · exact .inr ⟨g', cap', cur, a2, a3, by rw [hw]; exact a4, a5⟩
  · exact h.r.keep hk2 (fun e => hgR e.symm)
  · have hs := h.bel.size
    exact Below.keep_ h.bel hk2 hs (fun i hi => by have := (h.own.lt g rfl).1; omega)
/-- What the inner loop holds after m pairs. -/
def openAt (op : Option Nat) (m : Nat) : Int := match op with | some k => if k < m then (k : Int) else -1 | none => -1
theorem openAt_hit {op : Option Nat} {m : Nat} (h : op = some m) : openAt op (m + 1) = m := by subst h; simp [openAt]
theorem openAt_miss {op : Option Nat} {m : Nat} (h : op ≠ some m) : openAt op (m + 1) = openAt op m := by
  unfold openAt
  cases op with
  | none => rfl
  | some k =>
    have : k ≠ m := fun e => h (by rw [e])
    simp only
    by_cases hk : k < m
    · rw [if_pos hk, if_pos (by omega)]
    · rw [if_neg hk, if_neg (by omega)]

set_option maxHeartbeats 4000000 in
set_option maxRecDepth 100000 in
theorem refpairs_calls (xs : List EventD) (F : Nat → Prop) (w : World) (A : Option Addr) (c : Nat) (hx : Ty.event.Sl F w A xs) (hF : ∀ b, F b → b < w.heap.size) :
    Calls Try.prog 21 #[.slice A xs.length c] w (PairsPost w (pairsF xs)) := by
  have HX := hide hx
  clear hx
  have HF := hide hF
  clear hF
  have hC := hide (fun o : Obj => refcheck_calls xs F (w.alloc o) A c (HX.out.mono (SameOn.of_below ((Below.refl _ _).alloc (Nat.le_refl _) _) HF.out)) (fun b hb => by have := HF.out b hb; simp; omega))
  by_cases hok : listOk xs = true
  · have hok' : errnoOf (listOk xs) = 0 := by rw [hok]; rfl
    rw [hok'] at hC
    go_enter Try.func21, Try.ntmps21
    go_wp2_with (go_at_call 45; refine (hC.out _).mono ?_; rintro e w1 ⟨rfl, hb1⟩; obtain ⟨hc1, hf1⟩ := bcell hb1; have hz1 : w.heap.size + 1 ≤ w1.heap.size := by have := hb1.size; simpa using this)
    have hR0 : w1.cell? ⟨w.heap.size, 0, none⟩ = some (.int .i64 0) ∧ w1.cell? ⟨w.heap.size, 1, none⟩ = some (.int .i64 0) ∧ w1.frozen? ⟨w.heap.size, 0, none⟩ = false ∧ w1.frozen? ⟨w.heap.size, 1, none⟩ = false := by
      rw [hc1 _ _ (by simp), hc1 _ _ (by simp), hf1 _ _ (by simp), hf1 _ _ (by simp)]
      simp [go_sem]
    clear hc1 hf1
    have HR0 := hide hR0
    clear hR0
    have hlen : xs.length ≤ 256 := listOk_len hok
    go_loopw [4, 5] (fun v i wr => ∃ (j : Nat), j ≤ xs.length ∧ i = .int .i64 j ∧ Hid (∃ (ps : List PairD) (op : Int → Option Nat), RRel xs w v wr j ps op)) (fun _ i _ => xs.length - (intOf i).toNat)
    case atStart =>
      refine ⟨0, by omega, rfl, [], fun _ => none, rfl, ⟨rfl, .inl ⟨rfl, rfl⟩⟩, fun k hk => by simp [Value.ownBlock] at hk, HR0.out, (show Below _ _ _ by repeat (first | assumption | (with_reducible exact Below.refl _ _) | (with_reducible apply below_drewN) | (with_reducible apply Below.drew) | (with_reducible refine Below.alloc2_ ?_ (by first | assumption | exact Nat.le_refl _ | omega | (simp; done) | (simp; omega)) _) | (with_reducible refine Below.setCell ?_ (by first | assumption | exact Nat.le_refl _ | omega | (simp; done) | (simp; omega)) _) | (with_reducible refine Below.then2_ ?_ (by assumption) (by first | assumption | exact Nat.le_refl _ | omega | (simp; done) | (simp; omega))) | exact Below.drew (by assumption) | exact Below.drew (Below.refl _ _)))⟩
    case round =>
      obtain ⟨j, hj, rfl, hrel⟩ := hrel
      obtain ⟨ps, op, hp⟩ := hrel.out
      have HP := hide hp
      clear hp hrel
      clear HR0
      have hb := HP.out.bel
      have hsz := hb.size
      obtain ⟨A5, c5, rfl⟩ := own_shape HP.out.own
      by_cases hlt : j < xs.length
      · obtain ⟨b, o, A', c', rfl, hFb, hv, hc0, hc1, hc2⟩ := (HX.out.mono (w' := wr) (fun b hb' => hb.block b (HF.out b hb'))).event_at j hlt
        have hbb : b < wr.heap.size := by have := HF.out b hFb; omega
        have HV := hide hv
        clear hv
        have hinv := pairsSt_inv xs j ps op HP.out.st hj
        have hfin := pairsSt_finv xs j ps op HP.out.st hj
        have hpl := hinv.1
        have HINV := hide hinv
        have HFIN := hide hfin
        clear hinv hfin
        have hj0 : (0 : Int) ≤ (j : Int) := Int.natCast_nonneg _
        have hj1 : (j : Int) < (xs.length : Int) := by omega
        go_wp2
        go_loopw [6, 7] (fun kv iv wr2 => ∃ (m : Nat), m ≤ ps.length ∧ iv = .int .i64 m ∧ kv = .int .i64 (openAt (op xs[j].proc) m) ∧ Hid (∃ n, wr2 = World.drewN wr n)) (fun _ i _ => ps.length - (intOf i).toNat)
        case atStart => exact ⟨0, by omega, rfl, by unfold openAt; cases op xs[j].proc <;> simp, 0, rfl⟩
        case round =>
          obtain ⟨m, hm, rfl, rfl, hw⟩ := hrel
          obtain ⟨n, rfl⟩ := hw.out
          clear hw
          by_cases hlm : m < ps.length
          · obtain ⟨g, cap, hA5, hgb, hgw, hcap, hcell, hfro⟩ := own_slice HP.out.own (by omega)
            obtain ⟨rfl, rfl⟩ : A5 = some ⟨g, 0, none⟩ ∧ c5 = cap := by simpa using hA5
            clear hA5
            have hfj := HINV.out.2.2 m hlm
            have hto := HFIN.out.to_ m hlm
            have hopn : op xs[j].proc = some m ↔ ps[m].to_ = -1 ∧ (ev xs ps[m].from_).proc = xs[j].proc := (HFIN.out.opn xs[j].proc m).trans ⟨fun ⟨_, h⟩ => h, fun h => ⟨hlm, h⟩⟩
            obtain ⟨f, hf⟩ : ∃ f, f = ps[m].from_ := ⟨_, rfl⟩
            rw [← hf] at hfj hopn
            have hg0 : wr.cell? ⟨g, m * 3, none⟩ = some (.int .i64 (f : Int)) := by
              rw [hf]
              exact hcell (m * 3) _ (by have := flat_get encP_len ps m 0 hlm (by omega); simpa [encP] using this)
            have hg1 : wr.cell? ⟨g, m * 3 + 1, none⟩ = some (.int .i64 ps[m].to_) := hcell _ _ (by have := flat_get encP_len ps m 1 hlm (by omega); simpa [encP] using this)
            clear hcell hfro hf
            have hfx : f < xs.length := by omega
            rw [ev_eq hfx] at hopn
            obtain ⟨bf, of, Af, cf, hAf, -, hvf, hd0, hd1, hd2⟩ := (HX.out.mono (w' := wr) (fun b hb' => hb.block b (HF.out b hb'))).event_at f (by omega)
            obtain ⟨rfl, rfl⟩ : b = bf ∧ o = of := by simpa using hAf
            clear hAf hvf
            have hf0 : (0 : Int) ≤ (f : Int) := Int.natCast_nonneg _
            have hm0 : (0 : Int) ≤ (m : Int) := Int.natCast_nonneg _
            have hf1 : (f : Int) < (xs.length : Int) := by omega
            have hm1 : (m : Int) < (ps.length : Int) := by omega
            by_cases hopm : op xs[j].proc = some m
            · obtain ⟨h1, h2⟩ := hopn.1 hopm
              have hoa := hide (openAt_hit hopm)
              rw [h1] at hg1
              rw [h2] at hd0
              clear hopn hopm h1 h2 hto
              go_wp2
              go_quiet (fail)
              go_wp2
              first | exact ⟨⟨m + 1, by omega, by go_num, by rw [hoa.out], _, rfl⟩, by simp [intOf]; omega⟩ | exact ⟨by ((repeat apply Exists.intro); refine ⟨?_, rfl⟩; exact ⟨m + 1, by omega, by go_num, by rw [hoa.out], _, rfl⟩), by simp [intOf]; omega⟩
            · have hoa := hide (openAt_miss hopm)
              rcases hto with ⟨h1, -⟩ | ⟨t, h1, -⟩
              · have hne : (xs[f].proc == xs[j].proc) = false := by
                  simp only [beq_eq_false_iff_ne, ne_eq]
                  exact fun e => hopm (hopn.2 ⟨h1, e⟩)
                rw [h1] at hg1
                clear hopn hopm h1
                go_wp2
                go_quiet (fail)
                go_wp2
                first | exact ⟨⟨m + 1, by omega, by go_num, by rw [hoa.out], _, rfl⟩, by simp [intOf]; omega⟩ | exact ⟨by ((repeat apply Exists.intro); refine ⟨?_, rfl⟩; exact ⟨m + 1, by omega, by go_num, by rw [hoa.out], _, rfl⟩), by simp [intOf]; omega⟩
              · have hd : decide ((t : Int) < 0) = false := decide_eq_false (by omega)
                rw [h1] at hg1
                clear hopn hopm h1
                go_wp2
                go_quiet (fail)
                go_wp2
                first | exact ⟨⟨m + 1, by omega, by go_num, by rw [hoa.out], _, rfl⟩, by simp [intOf]; omega⟩ | exact ⟨by ((repeat apply Exists.intro); refine ⟨?_, rfl⟩; exact ⟨m + 1, by omega, by go_num, by rw [hoa.out], _, rfl⟩), by simp [intOf]; omega⟩
          · obtain rfl : m = ps.length := by omega
            cases hop : op xs[j].proc with
            | none =>
              have hoa : openAt none ps.length = -1 := rfl
              rw [hoa]
              clear hoa
              have HOP := hide hop
              clear hop
              by_cases hk : xs[j].kind = 0
              · have hk1 : (xs[j].kind == 0) = true := by simpa using hk
                have HK := hide hk
                clear hk
                go_wp2_with (at_builtin; go_loud (refine wp_append_at (enc := encP) encP_len encP_one (W := wr.drewN n) w.heap.size rfl _ _ 28 37 _ 24 rfl Try.underlying28 info37 rfl (by decide) (by decide) (.slice A5 ps.length c5) ps ⟨j, -1, 3⟩ _ rfl rfl rfl (own_keep (S := fun _ => False) HP.out.own (Keep.of_below (show Below _ _ _ by repeat (first | assumption | (with_reducible exact Below.refl _ _) | (with_reducible apply below_drewN) | (with_reducible apply Below.drew) | (with_reducible refine Below.alloc2_ ?_ (by first | assumption | exact Nat.le_refl _ | omega | (simp; done) | (simp; omega)) _) | (with_reducible refine Below.setCell ?_ (by first | assumption | exact Nat.le_refl _ | omega | (simp; done) | (simp; omega)) _) | (with_reducible refine Below.then2_ ?_ (by assumption) (by first | assumption | exact Nat.le_refl _ | omega | (simp; done) | (simp; omega))) | exact Below.drew (by assumption) | exact Below.drew (Below.refl _ _)))) (fun _ _ => id)) (by simp; omega) (by omega) ?_); intro v3 w3 hown3 hk3 hat3 hs3)
                obtain ⟨ps', op', hp'⟩ := HP.out.push hlt HOP.out HK.out hown3 (w2 := wr.drewN n) (show Below _ _ _ by repeat (first | assumption | (with_reducible exact Below.refl _ _) | (with_reducible apply below_drewN) | (with_reducible apply Below.drew) | (with_reducible refine Below.alloc2_ ?_ (by first | assumption | exact Nat.le_refl _ | omega | (simp; done) | (simp; omega)) _) | (with_reducible refine Below.setCell ?_ (by first | assumption | exact Nat.le_refl _ | omega | (simp; done) | (simp; omega)) _) | (with_reducible refine Below.then2_ ?_ (by assumption) (by first | assumption | exact Nat.le_refl _ | omega | (simp; done) | (simp; omega))) | exact Below.drew (by assumption) | exact Below.drew (Below.refl _ _))) hk3 hat3
                first | exact ⟨⟨j + 1, by omega, by go_num, ⟨ps', op', hp'⟩⟩, by simp [intOf]; omega⟩ | exact ⟨by ((repeat apply Exists.intro); refine ⟨?_, rfl⟩; exact ⟨j + 1, by omega, by go_num, ⟨ps', op', hp'⟩⟩), by simp [intOf]; omega⟩
              · have hk1 : (xs[j].kind == 0) = false := by simpa using hk
                have HK := hide hk
                clear hk
                obtain ⟨hr0, hr1, hr2, hr3⟩ := HP.out.r
                have hrlt := HP.out.r.lt
                go_wp2
                go_quiet (fail)
                go_wp2
                refine bodyPost_ret (v := .tuple #[.slice none 0 0, .agg #[.int .i64 40, .int .i64 j]]) (by simp [results, Try.results21, go_sem, hr0, hr1, hrlt]) rfl (HP.out.bad hok hlt ?_ (show Below _ _ _ by repeat (first | assumption | (with_reducible exact Below.refl _ _) | (with_reducible apply below_drewN) | (with_reducible apply Below.drew) | (with_reducible refine Below.alloc2_ ?_ (by first | assumption | exact Nat.le_refl _ | omega | (simp; done) | (simp; omega)) _) | (with_reducible refine Below.setCell ?_ (by first | assumption | exact Nat.le_refl _ | omega | (simp; done) | (simp; omega)) _) | (with_reducible refine Below.then2_ ?_ (by assumption) (by first | assumption | exact Nat.le_refl _ | omega | (simp; done) | (simp; omega))) | exact Below.drew (by assumption) | exact Below.drew (Below.refl _ _))))
                simp only [pairStep, HOP.out, HK.out, if_false]
            | some k =>
              have hkp := HINV.out.2.1 _ _ hop
              have hoa : openAt (some k) ps.length = (k : Int) := by unfold openAt; simp only; rw [if_pos hkp]
              rw [hoa]
              clear hoa
              have HOP := hide hop
              clear hop
              obtain ⟨hr0, hr1, hr2, hr3⟩ := HP.out.r
              have hrlt := HP.out.r.lt
              have hk0 : (0 : Int) ≤ (k : Int) := Int.natCast_nonneg _
              have hkp1 : (k : Int) < (ps.length : Int) := by omega
              have hdk : decide ((k : Int) < 0) = false := decide_eq_false (by omega)
              by_cases hk : xs[j].kind = 0
              · have hk1 : (xs[j].kind == 0) = true := by simpa using hk
                have HK := hide hk
                clear hk
                go_wp2
                refine bodyPost_ret (v := .tuple #[.slice none 0 0, .agg #[.int .i64 40, .int .i64 j]]) (by simp [results, Try.results21, go_sem, hr0, hr1, hrlt]) rfl (HP.out.bad hok hlt ?_ (show Below _ _ _ by repeat (first | assumption | (with_reducible exact Below.refl _ _) | (with_reducible apply below_drewN) | (with_reducible apply Below.drew) | (with_reducible refine Below.alloc2_ ?_ (by first | assumption | exact Nat.le_refl _ | omega | (simp; done) | (simp; omega)) _) | (with_reducible refine Below.setCell ?_ (by first | assumption | exact Nat.le_refl _ | omega | (simp; done) | (simp; omega)) _) | (with_reducible refine Below.then2_ ?_ (by assumption) (by first | assumption | exact Nat.le_refl _ | omega | (simp; done) | (simp; omega))) | exact Below.drew (by assumption) | exact Below.drew (Below.refl _ _))))
                simp only [pairStep, HOP.out, HK.out, if_true]
              · have hk1 : (xs[j].kind == 0) = false := by simpa using hk
                have HK := hide hk
                clear hk
                obtain ⟨g, cap, hA5, hgb, hgw, hcap, hcell, hfro⟩ := own_slice HP.out.own (by omega)
                obtain ⟨rfl, rfl⟩ : A5 = some ⟨g, 0, none⟩ ∧ c5 = cap := by simpa using hA5
                clear hA5
                have hfj := HINV.out.2.2 k hkp
                obtain ⟨f, hf⟩ : ∃ f, f = ps[k].from_ := ⟨_, rfl⟩
                rw [← hf] at hfj
                have hg0 : wr.cell? ⟨g, k * 3, none⟩ = some (.int .i64 (f : Int)) := by
                  rw [hf]
                  exact hcell (k * 3) _ (by have := flat_get encP_len ps k 0 hkp (by omega); simpa [encP] using this)
                have HF' := hide hf
                clear hf hcell hfro
                obtain ⟨bf, of, Af, cf, hAf, -, hvf, hd0, hd1, hd2⟩ := (HX.out.mono (w' := wr) (fun b hb' => hb.block b (HF.out b hb'))).event_at f (by omega)
                obtain ⟨rfl, rfl⟩ : b = bf ∧ o = of := by simpa using hAf
                clear hAf
                have HVF := hide hvf
                clear hvf
                have hfx : f < xs.length := by omega
                have hf0 : (0 : Int) ≤ (f : Int) := Int.natCast_nonneg _
                have hf1 : (f : Int) < (xs.length : Int) := by omega
                have hS : ∀ W', Below wr.heap.size wr W' → W'.cell? ⟨g, k * 3, none⟩ = some (.int .i64 (f : Int)) ∧ W'.cell? ⟨b, o + f * 3, none⟩ = some (.int .i64 xs[f].proc) ∧ W'.cell? ⟨b, o + f * 3 + 1, none⟩ = some (.int .i64 xs[f].kind) ∧ W'.cell? ⟨b, o + f * 3 + 2, none⟩ = some (.slice Af xs[f].calls.length cf) ∧
                    W'.cell? ⟨b, o + j * 3, none⟩ = some (.int .i64 xs[j].proc) ∧ W'.cell? ⟨b, o + j * 3 + 1, none⟩ = some (.int .i64 xs[j].kind) ∧ W'.cell? ⟨b, o + j * 3 + 2, none⟩ = some (.slice A' xs[j].calls.length c') ∧ Below wr.heap.size wr W' := by
                  intro W' hB
                  have hW := (bcell hB).1
                  refine ⟨?_, ?_, ?_, ?_, ?_, ?_, ?_, hB⟩ <;> (rw [hW _ _ (by omega)]; assumption)
                have HS := hide hS
                have hS0 := hS wr (Below.refl _ _)
                clear hS
                have hC2 : ∀ W', Below wr.heap.size wr W' → Calls Try.prog 18 #[.agg #[.int .i64 xs[f].proc, .int .i64 xs[f].kind, .slice Af xs[f].calls.length cf], .agg #[.int .i64 xs[j].proc, .int .i64 xs[j].kind, .slice A' xs[j].calls.length c']] W' fun e w2 => e = .returned (.bool (matchB xs[f] xs[j])) ∧ Below W'.heap.size W' w2 :=
                  fun W' hB => refMatch_calls xs[f] xs[j] F W' _ _ ⟨Af, cf, rfl, HVF.out.mono (fun b hb' => hB.block b (by have := HF.out b hb'; omega))⟩ ⟨A', c', rfl, HV.out.mono (fun b hb' => hB.block b (by have := HF.out b hb'; omega))⟩ (fun b hb' => by have := HF.out b hb'; have := hB.size; omega)
                have HC := hide hC2
                clear hC2
                by_cases hm : matchB xs[f] xs[j] = true
                · have hm1 : (!matchB xs[f] xs[j]) = false := by simpa using hm
                  have HM := hide hm
                  go_wp2
                  go_region_held3 (fun w' => w'.cell? ⟨g, k * 3, none⟩ = some (.int .i64 (f : Int)) ∧ w'.cell? ⟨b, o + f * 3, none⟩ = some (.int .i64 xs[f].proc) ∧ w'.cell? ⟨b, o + f * 3 + 1, none⟩ = some (.int .i64 xs[f].kind) ∧ w'.cell? ⟨b, o + f * 3 + 2, none⟩ = some (.slice Af xs[f].calls.length cf) ∧
                      w'.cell? ⟨b, o + j * 3, none⟩ = some (.int .i64 xs[j].proc) ∧ w'.cell? ⟨b, o + j * 3 + 1, none⟩ = some (.int .i64 xs[j].kind) ∧ w'.cell? ⟨b, o + j * 3 + 2, none⟩ = some (.slice A' xs[j].calls.length c') ∧ Below wr.heap.size wr w')
                    (first | exact HS.out _ (below_drewN (Below.refl _ _) _) | exact HS.out _ (Below.drew (below_drewN (Below.refl _ _) _)) | exact HS.out _ (Below.drew (Below.refl _ _)) | exact HS.out _ (show Below _ _ _ by repeat (first | assumption | (with_reducible exact Below.refl _ _) | (with_reducible apply below_drewN) | (with_reducible apply Below.drew) | (with_reducible refine Below.alloc2_ ?_ (by first | assumption | exact Nat.le_refl _ | omega | (simp; done) | (simp; omega)) _) | (with_reducible refine Below.setCell ?_ (by first | assumption | exact Nat.le_refl _ | omega | (simp; done) | (simp; omega)) _) | (with_reducible refine Below.then2_ ?_ (by assumption) (by first | assumption | exact Nat.le_refl _ | omega | (simp; done) | (simp; omega))) | exact Below.drew (by assumption) | exact Below.drew (Below.refl _ _))) | (go_split_ands; exact HS.out _ (show Below _ _ _ by repeat (first | assumption | (with_reducible exact Below.refl _ _) | (with_reducible apply below_drewN) | (with_reducible apply Below.drew) | (with_reducible refine Below.alloc2_ ?_ (by first | assumption | exact Nat.le_refl _ | omega | (simp; done) | (simp; omega)) _) | (with_reducible refine Below.setCell ?_ (by first | assumption | exact Nat.le_refl _ | omega | (simp; done) | (simp; omega)) _) | (with_reducible refine Below.then2_ ?_ (by assumption) (by first | assumption | exact Nat.le_refl _ | omega | (simp; done) | (simp; omega))) | exact Below.drew (by assumption) | exact Below.drew (Below.refl _ _)))))
                    ((go_at_call 18; go_split_ands; (with_reducible refine (HC.out _ (by first | assumption | exact below_drewN (Below.refl _ _) _)).mono ?_); rintro e w3 ⟨rfl, hb3⟩))
                  have hbw3 : Below wr.heap.size wr w3 := by first | exact (show Below _ _ _ by repeat (first | assumption | (with_reducible exact Below.refl _ _) | (with_reducible apply below_drewN) | (with_reducible apply Below.drew) | (with_reducible refine Below.alloc2_ ?_ (by first | assumption | exact Nat.le_refl _ | omega | (simp; done) | (simp; omega)) _) | (with_reducible refine Below.setCell ?_ (by first | assumption | exact Nat.le_refl _ | omega | (simp; done) | (simp; omega)) _) | (with_reducible refine Below.then2_ ?_ (by assumption) (by first | assumption | exact Nat.le_refl _ | omega | (simp; done) | (simp; omega))) | exact Below.drew (by assumption) | exact Below.drew (Below.refl _ _))) | (go_split_ands; exact (show Below _ _ _ by repeat (first | assumption | (with_reducible exact Below.refl _ _) | (with_reducible apply below_drewN) | (with_reducible apply Below.drew) | (with_reducible refine Below.alloc2_ ?_ (by first | assumption | exact Nat.le_refl _ | omega | (simp; done) | (simp; omega)) _) | (with_reducible refine Below.setCell ?_ (by first | assumption | exact Nat.le_refl _ | omega | (simp; done) | (simp; omega)) _) | (with_reducible refine Below.then2_ ?_ (by assumption) (by first | assumption | exact Nat.le_refl _ | omega | (simp; done) | (simp; omega))) | exact Below.drew (by assumption) | exact Below.drew (Below.refl _ _))))
                  have hk3 : Keep (fun _ => False) wr w3 := Keep.of_below hbw3
                  have HP3 := hide (HP.out.same hk3)
                  have hz3 := hbw3.size
                  obtain ⟨g', cap', hA5, -, hgw3, -, hcell, hfro⟩ := own_slice HP3.out.own (by omega)
                  obtain ⟨rfl, rfl⟩ : g = g' ∧ c5 = cap' := by simpa using hA5
                  clear hA5
                  have hg1 : w3.cell? ⟨g, k * 3 + 1, none⟩ = some (.int .i64 ps[k].to_) := hcell _ _ (by have := flat_get encP_len ps k 1 hkp (by omega); simpa [encP] using this)
                  have hg2 : w3.cell? ⟨g, k * 3 + 2, none⟩ = some (.int .i64 ps[k].status) := hcell _ _ (by have := flat_get encP_len ps k 2 hkp (by omega); simpa [encP] using this)
                  have hfr1 := hfro (k * 3 + 1)
                  have hfr2 := hfro (k * 3 + 2)
                  obtain ⟨-, -, -, -, e0, e1, e2, -⟩ := HS.out w3 hbw3
                  have hgb2 : b ≠ g := by
                    have := HF.out b hFb
                    omega
                  have hgb3 : g ≠ b := Ne.symm hgb2
                  clear hcell hfro
                  go_wp2
                  obtain ⟨ps', op', hl', hp'⟩ := HP3.out.set hlt HOP.out HK.out hkp HF'.out hfx HM.out (w2 := (w3.setCell ⟨g, k * 3 + 1, none⟩ (.int .i64 j)).setCell ⟨g, k * 3 + 2, none⟩ (.int .i64 xs[j].kind)) rfl (show Below _ _ _ by repeat (first | assumption | (with_reducible exact Below.refl _ _) | (with_reducible apply below_drewN) | (with_reducible apply Below.drew) | (with_reducible refine Below.alloc2_ ?_ (by first | assumption | exact Nat.le_refl _ | omega | (simp; done) | (simp; omega)) _) | (with_reducible refine Below.setCell ?_ (by first | assumption | exact Nat.le_refl _ | omega | (simp; done) | (simp; omega)) _) | (with_reducible refine Below.then2_ ?_ (by assumption) (by first | assumption | exact Nat.le_refl _ | omega | (simp; done) | (simp; omega))) | exact Below.drew (by assumption) | exact Below.drew (Below.refl _ _)))
                  rw [← hl'] at hp'
                  first | exact ⟨⟨j + 1, by omega, by go_num, ⟨ps', op', by rw [← hl']; exact hp'⟩⟩, by simp [intOf]; omega⟩ | exact ⟨by ((repeat apply Exists.intro); refine ⟨?_, rfl⟩; exact ⟨j + 1, by omega, by go_num, ⟨ps', op', by rw [← hl']; exact hp'⟩⟩), by simp [intOf]; omega⟩
                · have hm1 : (!matchB xs[f] xs[j]) = true := by simpa using hm
                  have HM := hide hm
                  go_wp2
                  go_region_held3 (fun w' => w'.cell? ⟨g, k * 3, none⟩ = some (.int .i64 (f : Int)) ∧ w'.cell? ⟨b, o + f * 3, none⟩ = some (.int .i64 xs[f].proc) ∧ w'.cell? ⟨b, o + f * 3 + 1, none⟩ = some (.int .i64 xs[f].kind) ∧ w'.cell? ⟨b, o + f * 3 + 2, none⟩ = some (.slice Af xs[f].calls.length cf) ∧
                      w'.cell? ⟨b, o + j * 3, none⟩ = some (.int .i64 xs[j].proc) ∧ w'.cell? ⟨b, o + j * 3 + 1, none⟩ = some (.int .i64 xs[j].kind) ∧ w'.cell? ⟨b, o + j * 3 + 2, none⟩ = some (.slice A' xs[j].calls.length c') ∧ Below wr.heap.size wr w')
                    (first | exact HS.out _ (below_drewN (Below.refl _ _) _) | exact HS.out _ (Below.drew (below_drewN (Below.refl _ _) _)) | exact HS.out _ (Below.drew (Below.refl _ _)) | exact HS.out _ (show Below _ _ _ by repeat (first | assumption | (with_reducible exact Below.refl _ _) | (with_reducible apply below_drewN) | (with_reducible apply Below.drew) | (with_reducible refine Below.alloc2_ ?_ (by first | assumption | exact Nat.le_refl _ | omega | (simp; done) | (simp; omega)) _) | (with_reducible refine Below.setCell ?_ (by first | assumption | exact Nat.le_refl _ | omega | (simp; done) | (simp; omega)) _) | (with_reducible refine Below.then2_ ?_ (by assumption) (by first | assumption | exact Nat.le_refl _ | omega | (simp; done) | (simp; omega))) | exact Below.drew (by assumption) | exact Below.drew (Below.refl _ _))) | (go_split_ands; exact HS.out _ (show Below _ _ _ by repeat (first | assumption | (with_reducible exact Below.refl _ _) | (with_reducible apply below_drewN) | (with_reducible apply Below.drew) | (with_reducible refine Below.alloc2_ ?_ (by first | assumption | exact Nat.le_refl _ | omega | (simp; done) | (simp; omega)) _) | (with_reducible refine Below.setCell ?_ (by first | assumption | exact Nat.le_refl _ | omega | (simp; done) | (simp; omega)) _) | (with_reducible refine Below.then2_ ?_ (by assumption) (by first | assumption | exact Nat.le_refl _ | omega | (simp; done) | (simp; omega))) | exact Below.drew (by assumption) | exact Below.drew (Below.refl _ _)))))
                    ((go_at_call 18; go_split_ands; (with_reducible refine (HC.out _ (by first | assumption | exact below_drewN (Below.refl _ _) _)).mono ?_); rintro e w3 ⟨rfl, hb3⟩))
                  have hbw3 : Below wr.heap.size wr w3 := by first | exact (show Below _ _ _ by repeat (first | assumption | (with_reducible exact Below.refl _ _) | (with_reducible apply below_drewN) | (with_reducible apply Below.drew) | (with_reducible refine Below.alloc2_ ?_ (by first | assumption | exact Nat.le_refl _ | omega | (simp; done) | (simp; omega)) _) | (with_reducible refine Below.setCell ?_ (by first | assumption | exact Nat.le_refl _ | omega | (simp; done) | (simp; omega)) _) | (with_reducible refine Below.then2_ ?_ (by assumption) (by first | assumption | exact Nat.le_refl _ | omega | (simp; done) | (simp; omega))) | exact Below.drew (by assumption) | exact Below.drew (Below.refl _ _))) | (go_split_ands; exact (show Below _ _ _ by repeat (first | assumption | (with_reducible exact Below.refl _ _) | (with_reducible apply below_drewN) | (with_reducible apply Below.drew) | (with_reducible refine Below.alloc2_ ?_ (by first | assumption | exact Nat.le_refl _ | omega | (simp; done) | (simp; omega)) _) | (with_reducible refine Below.setCell ?_ (by first | assumption | exact Nat.le_refl _ | omega | (simp; done) | (simp; omega)) _) | (with_reducible refine Below.then2_ ?_ (by assumption) (by first | assumption | exact Nat.le_refl _ | omega | (simp; done) | (simp; omega))) | exact Below.drew (by assumption) | exact Below.drew (Below.refl _ _))))
                  have hk3 : Keep (fun _ => False) wr w3 := Keep.of_below hbw3
                  obtain ⟨hr0', hr1', hr2', hr3'⟩ := HP.out.r.keep hk3 id
                  have hrlt' := (HP.out.r.keep hk3 id).lt
                  go_wp2
                  refine bodyPost_ret (v := .tuple #[.slice none 0 0, .agg #[.int .i64 40, .int .i64 j]]) (by simp [results, Try.results21, go_sem, hr0', hr1', hrlt']) rfl (HP.out.bad hok hlt ?_ (show Below _ _ _ by repeat (first | assumption | (with_reducible exact Below.refl _ _) | (with_reducible apply below_drewN) | (with_reducible apply Below.drew) | (with_reducible refine Below.alloc2_ ?_ (by first | assumption | exact Nat.le_refl _ | omega | (simp; done) | (simp; omega)) _) | (with_reducible refine Below.setCell ?_ (by first | assumption | exact Nat.le_refl _ | omega | (simp; done) | (simp; omega)) _) | (with_reducible refine Below.then2_ ?_ (by assumption) (by first | assumption | exact Nat.le_refl _ | omega | (simp; done) | (simp; omega))) | exact Below.drew (by assumption) | exact Below.drew (Below.refl _ _))))
                  have h1 : ps[k]? = some ps[k] := List.getElem?_eq_getElem hkp
                  have h2 : xs[ps[k].from_]? = some xs[f] := by rw [← HF'.out]; exact List.getElem?_eq_getElem hfx
                  simp only [pairStep, HOP.out, HK.out, h1, h2]
                  rw [if_neg (by exact id), if_neg HM.out]
      · obtain rfl : j = xs.length := by omega
        obtain ⟨hr0, hr1, hr2, hr3⟩ := HP.out.r
        have hrlt := HP.out.r.lt
        go_wp2
        refine bodyPost_ret (v := .tuple #[.slice A5 ps.length c5, .agg #[.int .i64 0, .int .i64 0]]) (by simp [results, Try.results21, go_sem, hr0, hr1, hrlt]) rfl ⟨(show Below _ _ _ by repeat (first | assumption | (with_reducible exact Below.refl _ _) | (with_reducible apply below_drewN) | (with_reducible apply Below.drew) | (with_reducible refine Below.alloc2_ ?_ (by first | assumption | exact Nat.le_refl _ | omega | (simp; done) | (simp; omega)) _) | (with_reducible refine Below.setCell ?_ (by first | assumption | exact Nat.le_refl _ | omega | (simp; done) | (simp; omega)) _) | (with_reducible refine Below.then2_ ?_ (by assumption) (by first | assumption | exact Nat.le_refl _ | omega | (simp; done) | (simp; omega))) | exact Below.drew (by assumption) | exact Below.drew (Below.refl _ _))), ?_⟩
        rw [pairsF, if_pos hok, HP.out.st]
        refine ⟨_, rfl, ?_⟩
        exact ownsRow_setCell_other (ownsRow_setCell_other HP.out.own (fun e => HP.out.ne _ e rfl) _) (fun e => HP.out.ne _ e rfl) _
  · have hok' : errnoOf (listOk xs) = 1 := by unfold errnoOf; rw [if_neg hok]
    rw [hok'] at hC
    go_enter Try.func21, Try.ntmps21
    go_wp2_with (go_at_call 45; refine (hC.out _).mono ?_; rintro e w1 ⟨rfl, hb1⟩; obtain ⟨hc1, hf1⟩ := bcell hb1; have hz1 : w.heap.size + 1 ≤ w1.heap.size := by have := hb1.size; simpa using this)
    refine bodyPost_ret (v := .tuple #[.slice none 0 0, .agg #[.int .i64 1, .int .i64 0]]) (by simp [results, Try.results21, go_sem, hc1, hf1]) rfl ⟨?_, ?_⟩
    · exact (show Below _ _ _ by repeat (first | assumption | (with_reducible exact Below.refl _ _) | (with_reducible apply below_drewN) | (with_reducible apply Below.drew) | (with_reducible refine Below.alloc2_ ?_ (by first | assumption | exact Nat.le_refl _ | omega | (simp; done) | (simp; omega)) _) | (with_reducible refine Below.setCell ?_ (by first | assumption | exact Nat.le_refl _ | omega | (simp; done) | (simp; omega)) _) | (with_reducible refine Below.then2_ ?_ (by assumption) (by first | assumption | exact Nat.le_refl _ | omega | (simp; done) | (simp; omega))) | exact Below.drew (by assumption) | exact Below.drew (Below.refl _ _)))
    · rw [pairsF, if_neg hok]
end Go.Proofs.Ytjjmedgibcffhaa
