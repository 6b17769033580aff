/- assizelaw04.PairOnce, walked. -/
import Derived.Test.YtjjmedgibcffhaaPairInv
import Derived.Test.YtjjmedgibcffhaaK6
import Derived.Deep.OwnRows
namespace Go.Proofs.Ytjjmedgibcffhaa
open Go.RowKit Go.MapKept
set_option linter.unusedSimpArgs false
set_option linter.unusedVariables false

def encB (x : Bool) : List Value := [.bool x]
theorem encB_len (x : Bool) : (encB x).length = 1 := rfl
theorem flat_one {α : Type} (f : α → Value) (xs : List α) : (xs.flatMap fun x => [f x]) = xs.map f := by
  induction xs with
  | nil => rfl
  | cons x xs ih => simp [List.flatMap_cons, ih]
theorem info4 : (Try.prog.info? 4).map (fun i => (i.zero, i.size, i.bytes)) = some (some (.bool false), 1, 1) := by kernel_rfl
theorem made_bools (n : Nat) : (madeCells #[Value.bool false] n).toList = (List.replicate n false).flatMap encB := by
  unfold encB
  rw [flat_one]
  apply List.ext_getElem
  · simp [madeCells]
  · intro i h1 h2
    simp [madeCells, Nat.mod_one]

/-- Which events have been met in the first i pairs. -/
def SInv (ps : List PairD) (n i : Nat) (sn : List Bool) : Prop := sn.length = n ∧ ∀ (t : Nat), sn[t]? = some true ↔ t < n ∧ ∃ (k : Nat) (h : k < ps.length), k < i ∧ (ps[k].from_ = t ∨ ps[k].to_ = (t : Int))
/-- What is known of each process's last pair among the first i. -/
def LInv (l : List EventD) (ps : List PairD) (i : Nat) (f : Int → Option Int) : Prop :=
  ∀ q, (f q = none ∧ ∀ (k : Nat) (h : k < ps.length), k < i → (ev l ps[k].from_).proc ≠ q) ∨
    ∃ (k : Nat) (h : k < ps.length), k < i ∧ (ev l ps[k].from_).proc = q ∧ f q = some ps[k].to_ ∧ ∀ (k' : Nat) (h' : k' < ps.length), k < k' → k' < i → (ev l ps[k'].from_).proc ≠ q
def lastMap (f : Int → Option Int) : Int → Option Value := fun q => (f q).map fun k : Int => Value.int .i64 k
theorem lastMap_upd (f : Int → Option Int) (k : Int) (x : Option Int) : lastMap (upd f k x) = upd (lastMap f) k (x.map fun k : Int => Value.int .i64 k) := by
  funext q
  unfold lastMap
  by_cases h : q = k
  · subst h
    rw [upd_same, upd_same]
  · rw [upd_ne _ _ h, upd_ne _ _ h]

theorem SInv.zero (ps : List PairD) (n : Nat) : SInv ps n 0 (List.replicate n false) := by
  refine ⟨by simp, fun t => ?_⟩
  simp [List.getElem?_replicate]
theorem LInv.zero (l : List EventD) (ps : List PairD) : LInv l ps 0 (fun _ => none) := fun q => .inl ⟨rfl, fun k h hk => by omega⟩
/-- The event where pair i begins has not been met. -/
theorem FInv.fresh_from {l : List EventD} {ps : List PairD} {op : Int → Option Nat} (h : FInv l l.length ps op) {n i : Nat} {sn : List Bool} (hs : SInv ps n i sn) (hi : i < ps.length) : sn[ps[i].from_]? ≠ some true := by
  intro hc
  obtain ⟨_, k, hk, hki, he⟩ := (hs.2 _).1 hc
  rcases he with he | he
  · have := h.inc k i hk hi hki
    omega
  · rcases h.to_ k hk with ⟨a, _⟩ | ⟨t, a, _, _, b, c, _⟩
    · rw [a] at he; omega
    · rw [a] at he
      have ht : t = ps[i].from_ := by omega
      rw [ht, (h.frm i hi).2] at b
      exact c b.symm
theorem FInv.fresh_to {l : List EventD} {ps : List PairD} {op : Int → Option Nat} (h : FInv l l.length ps op) {n i t : Nat} {sn : List Bool} (hs : SInv ps n i sn) (hi : i < ps.length) (ht : ps[i].to_ = (t : Int)) : (sn.set ps[i].from_ true)[t]? ≠ some true := by
  intro hc
  rcases h.to_ i hi with ⟨a, _⟩ | ⟨t', a, b, c, d, e, _⟩
  · rw [a] at ht; omega
  · have htt : t' = t := by omega
    subst htt
    rw [List.getElem?_set, if_neg (by omega)] at hc
    obtain ⟨_, k, hk, hki, he⟩ := (hs.2 _).1 hc
    rcases he with he | he
    · rw [← he, (h.frm k hk).2] at d
      exact e d.symm
    · have := h.tos k i hk hi (by omega) (by rw [he, ht])
      omega
theorem SInv.step {ps : List PairD} {n i : Nat} {sn : List Bool} (h : SInv ps n i sn) (hi : i < ps.length) (hf : ps[i].from_ < n) (ht : ps[i].to_ < 0) : SInv ps n (i + 1) (sn.set ps[i].from_ true) := by
  refine ⟨by simpa using h.1, fun t => ?_⟩
  rw [List.getElem?_set]
  constructor
  · intro hc
    split at hc
    · rename_i e
      subst e
      exact ⟨hf, i, hi, by omega, .inl rfl⟩
    · obtain ⟨a, k, hk, hki, he⟩ := (h.2 t).1 hc
      exact ⟨a, k, hk, by omega, he⟩
  · rintro ⟨a, k, hk, hki, he⟩
    split
    · rename_i e
      rw [if_pos (by rw [h.1]; exact hf)]
    · rename_i e
      rcases Nat.lt_or_ge k i with h1 | h1
      · exact (h.2 t).2 ⟨a, k, hk, h1, he⟩
      · obtain rfl : k = i := by omega
        rcases he with he | he
        · exact absurd he e
        · omega
theorem SInv.step2 {ps : List PairD} {n i t : Nat} {sn : List Bool} (h : SInv ps n i sn) (hi : i < ps.length) (hf : ps[i].from_ < n) (ht : ps[i].to_ = (t : Int)) (htn : t < n) : SInv ps n (i + 1) ((sn.set ps[i].from_ true).set t true) := by
  refine ⟨by simpa using h.1, fun s => ?_⟩
  rw [List.getElem?_set, List.getElem?_set, List.length_set]
  constructor
  · intro hc
    split at hc
    · rename_i e
      subst e
      exact ⟨htn, i, hi, by omega, .inr ht⟩
    · split at hc
      · rename_i e
        subst e
        exact ⟨hf, i, hi, by omega, .inl rfl⟩
      · obtain ⟨a, k, hk, hki, he⟩ := (h.2 s).1 hc
        exact ⟨a, k, hk, by omega, he⟩
  · rintro ⟨a, k, hk, hki, he⟩
    split
    · rw [if_pos (by rw [h.1]; exact htn)]
    · rename_i e1
      split
      · rw [if_pos (by rw [h.1]; exact hf)]
      · rename_i e
        rcases Nat.lt_or_ge k i with h1 | h1
        · exact (h.2 s).2 ⟨a, k, hk, h1, he⟩
        · obtain rfl : k = i := by omega
          rcases he with he | he
          · exact absurd he e
          · exact absurd (by omega) e1
theorem LInv.step {l : List EventD} {ps : List PairD} {i : Nat} {f : Int → Option Int} (h : LInv l ps i f) (hi : i < ps.length) : LInv l ps (i + 1) (upd f (ev l ps[i].from_).proc (some ps[i].to_)) := by
  intro q
  by_cases hq : q = (ev l ps[i].from_).proc
  · right
    exact ⟨i, hi, by omega, hq.symm, by rw [hq, upd_same], fun k' _ h1 h2 => by omega⟩
  · rw [upd_ne _ _ hq]
    rcases h q with ⟨a, b⟩ | ⟨k, hk, a, b, c, d⟩
    · left
      refine ⟨a, fun k hk hki => ?_⟩
      rcases Nat.lt_or_ge k i with h1 | h1
      · exact b k hk h1
      · obtain rfl : k = i := by omega
        exact fun e => hq e.symm
    · right
      refine ⟨k, hk, by omega, b, c, fun k' hk' h1 h2 => ?_⟩
      rcases Nat.lt_or_ge k' i with h3 | h3
      · exact d k' hk' h1 h3
      · obtain rfl : k' = i := by omega
        exact fun e => hq e.symm
theorem upd_upd {κ β : Type} (f : κ → β) (k : κ) (a b : β) : upd (upd f k a) k b = upd f k b := by
  funext q
  by_cases h : q = k
  · subst h; rw [upd_same, upd_same]
  · rw [upd_ne _ _ h, upd_ne _ _ h, upd_ne _ _ h]
/-- What the law asks of the process's last pair. -/
theorem FInv.last_ok {l : List EventD} {ps : List PairD} {op : Int → Option Nat} (h : FInv l l.length ps op) {i : Nat} {f : Int → Option Int} (hl : LInv l ps i f) (hi : i < ps.length) :
    0 ≤ (f (ev l ps[i].from_).proc).getD 0 ∧ (f (ev l ps[i].from_).proc).getD 0 ≤ (ps[i].from_ : Int) := by
  rcases hl (ev l ps[i].from_).proc with ⟨a, _⟩ | ⟨k, hk, a, b, c, _⟩
  · rw [a]; simp
  · rw [c]
    have := h.seq k i hk hi a b
    simp
    omega

/-- What holds at the head of a round of the first loop. -/
structure ORel (xs : List EventD) (ps : List PairD) (W wr : World) (S M i : Nat) (sn : List Bool) (f : Int → Option Int) : Prop where
  s : SInv ps xs.length i sn
  l : LInv xs ps i f
  own : wr.ownsRow S 4 1 (.slice (some ⟨S, 0, none⟩) xs.length xs.length) sn.length (sn.flatMap encB)
  map : MapAt key2 wr M (lastMap f)
  keep : Keep (fun b => b = S ∨ b = M) W wr

theorem own_bool {w : World} {S cap n : Nat} {sn : List Bool} (h : w.ownsRow S 4 1 (.slice (some ⟨S, 0, none⟩) n cap) sn.length (sn.flatMap encB)) (hn : n = sn.length) (j : Nat) (hj : j < sn.length) (b : Bool) :
    (w.setCell ⟨S, j, none⟩ (.bool b)).ownsRow S 4 1 (.slice (some ⟨S, 0, none⟩) n cap) (sn.set j b).length ((sn.set j b).flatMap encB) := by
  subst hn
  have e := (h.stored j (.bool b)).1
  have h2 := flat_set (enc := encB) encB_len sn j 0 b (.bool b) hj (by omega) rfl
  simp only [Nat.mul_one, Nat.add_zero] at h2
  rw [h2] at e
  simpa using e
theorem own_cell {w : World} {S cap n : Nat} {sn : List Bool} (h : w.ownsRow S 4 1 (.slice (some ⟨S, 0, none⟩) n cap) sn.length (sn.flatMap encB)) (hn : n = sn.length) (j : Nat) (hj : j < sn.length) :
    w.cell? ⟨S, j, none⟩ = some (.bool sn[j]) ∧ w.frozen? ⟨S, j, none⟩ = false := by
  subst hn
  refine ⟨?_, h.frozenAt j⟩
  rw [h.cellAt j (by omega)]
  have := flat_get encB_len sn j 0 hj (by omega)
  simpa [encB] using this

theorem keep_set {S : Nat → Prop} (w : World) (a : Addr) (v : Value) (h : S a.block) : Keep S w (w.setCell a v) :=
  ⟨rfl, rfl, rfl, by simp, fun k _ hk => Below.heap_setCell _ _ _ _ (fun e => hk (by rw [e]; exact h))⟩
/-- One event marked as seen, and the map written. -/
theorem omem_set {W wr wx w4 : World} {S M j n : Nat} {sn : List Bool} (ho : wr.ownsRow S 4 1 (.slice (some ⟨S, 0, none⟩) n n) sn.length (sn.flatMap encB)) (hn : n = sn.length) (hkp : Keep (fun b => b = S ∨ b = M) W wr)
    (hb : Below wr.heap.size wr wx) (hk : Keep (fun i => i = M) (wx.setCell ⟨S, j, none⟩ (.bool true)) w4) (hSM : S ≠ M) (hj : j < sn.length) :
    w4.ownsRow S 4 1 (.slice (some ⟨S, 0, none⟩) n n) (sn.set j true).length ((sn.set j true).flatMap encB) ∧ Keep (fun b => b = S ∨ b = M) W w4 := by
  have h1 := own_keep (S := fun _ => False) ho (Keep.of_below hb) (fun _ _ => id)
  have h2 := own_bool h1 hn j hj true
  refine ⟨own_keep h2 hk (fun k e => ?_), ((hkp.trans (Keep.of_below hb)).trans (keep_set _ _ _ (.inl rfl))).trans (hk.mono fun _ _ e => .inr e)⟩
  have e2 : S = k := by injection e
  rw [← e2]
  exact hSM

set_option maxHeartbeats 4000000 in
set_option maxRecDepth 100000 in
theorem once_calls (xs : List EventD) (F : Nat → Prop) (w : World) (A : Option Addr) (c : Nat) (hx : Ty.event.Sl F w A xs) (hF : ∀ b, F b → b < w.heap.size) :
    Calls Try.prog 4 #[.slice A xs.length c] w fun e w' => e = .returned (.bool true) ∧ Below w.heap.size w w' := by
  have HX := hide hx
  clear hx
  have HF := hide hF
  clear hF
  have hlen := HX.out.len_le (by decide)
  have hmm := @run_makeMap Try.prog
  have hmk := run_make_row' (P := Try.prog) 34 4 (.bool false) 1 Try.underlying34 info4 rfl .i64 .i64 xs.length (by omega) (by omega)
  go_enter Try.func4, Try.ntmps4
  go_wp2_with fail
  go_at_call 16
  refine (alive4_calls _).mono ?_
  rintro e w1 ⟨rfl, hb1⟩
  have hz1 := hb1.size
  go_wp2_with fail
  go_at_call 19
  refine (pairs_res xs F _ _ _ (HX.out.mono (SameOn.of_below (show Below _ _ _ by repeat (first | assumption | (with_reducible exact Below.refl _ _) | (with_reducible apply below_drewN) | (with_reducible apply Below.drew) | (with_reducible refine Below.alloc2_ ?_ (by first | assumption | exact Nat.le_refl _ | omega | (simp; done) | (simp; omega)) _) | (with_reducible refine Below.setCell ?_ (by first | assumption | exact Nat.le_refl _ | omega | (simp; done) | (simp; omega)) _) | (with_reducible refine Below.then2_ ?_ (by assumption) (by first | assumption | exact Nat.le_refl _ | omega | (simp; done) | (simp; omega))) | exact Below.drew (by assumption) | exact Below.drew (Below.refl _ _))) HF.out)) (fun b hb => by have := HF.out b hb; omega)).mono ?_
  rintro e w2 ⟨A2, c2, rfl, hs2, hb2⟩
  have hz2 := hb2.size
  have HS2 := hide hs2
  clear hs2
  rcases flOf_cases xs with ⟨h1, ps, h2⟩ | h3
  · have e1 : (flOf (pairsF xs)).1 = 0 := by rw [h1]
    obtain ⟨op, hinv⟩ := pairsF_finv h2
    have hps : psOf (pairsF xs) = ps := by rw [h2]; rfl
    have hpl := psOf_len xs
    rw [hps] at hpl HS2 ⊢
    clear h1 hps
    have H2 := hide h2
    clear h2
    have HINV := hide hinv
    clear hinv
    go_wp2
    obtain ⟨W, hW⟩ : ∃ W, W = ((w2.alloc (.cells #[.int .i64 0, .int .i64 (flOf (pairsF xs)).2] 31)).alloc (.cells (madeCells #[.bool false] xs.length) 4)).alloc (.map #[] 0) := ⟨_, rfl⟩
    rw [← hW]
    have hbW : Below w2.heap.size w2 W := by rw [hW]; exact (show Below _ _ _ by repeat (first | assumption | (with_reducible exact Below.refl _ _) | (with_reducible apply below_drewN) | (with_reducible apply Below.drew) | (with_reducible refine Below.alloc2_ ?_ (by first | assumption | exact Nat.le_refl _ | omega | (simp; done) | (simp; omega)) _) | (with_reducible refine Below.setCell ?_ (by first | assumption | exact Nat.le_refl _ | omega | (simp; done) | (simp; omega)) _) | (with_reducible refine Below.then2_ ?_ (by assumption) (by first | assumption | exact Nat.le_refl _ | omega | (simp; done) | (simp; omega))) | exact Below.drew (by assumption) | exact Below.drew (Below.refl _ _)))
    have hbw : Below w.heap.size w W := by rw [hW]; exact (show Below _ _ _ by repeat (first | assumption | (with_reducible exact Below.refl _ _) | (with_reducible apply below_drewN) | (with_reducible apply Below.drew) | (with_reducible refine Below.alloc2_ ?_ (by first | assumption | exact Nat.le_refl _ | omega | (simp; done) | (simp; omega)) _) | (with_reducible refine Below.setCell ?_ (by first | assumption | exact Nat.le_refl _ | omega | (simp; done) | (simp; omega)) _) | (with_reducible refine Below.then2_ ?_ (by assumption) (by first | assumption | exact Nat.le_refl _ | omega | (simp; done) | (simp; omega))) | exact Below.drew (by assumption) | exact Below.drew (Below.refl _ _)))
    have hzW : W.heap.size = w2.heap.size + 3 := by rw [hW]; simp
    have hown0 : W.ownsRow (w2.heap.size + 1) 4 1 (.slice (some ⟨w2.heap.size + 1, 0, none⟩) xs.length xs.length) xs.length ((List.replicate xs.length false).flatMap encB) := by
      rw [hW, ← made_bools]
      have := World.ownsRow_lit (base := w2.heap.size + 1) (e := 4) (size := 1) (w2.alloc (.cells #[.int .i64 0, .int .i64 (flOf (pairsF xs)).2] 31)) (madeCells #[.bool false] xs.length) xs.length (by simp) (by simp only [maxLen]; omega) (by simp [size_madeCells])
      have h2 := this.alloc (.map #[] 0)
      simpa using h2
    have hmap0 : MapAt key2 W (w2.heap.size + 1 + 1) (lastMap fun _ => none) := by
      have := MapAt.made key2 ((w2.alloc (.cells #[.int .i64 0, .int .i64 (flOf (pairsF xs)).2] 31)).alloc (.cells (madeCells #[.bool false] xs.length) 4))
      rw [← hW] at this
      have e : ((w2.alloc (.cells #[.int .i64 0, .int .i64 (flOf (pairsF xs)).2] 31)).alloc (.cells (madeCells #[.bool false] xs.length) 4)).heap.size = w2.heap.size + 1 + 1 := by simp
      rw [e] at this
      exact this.ext fun _ => rfl
    clear hW hmm hmk e1
    have HZW := hide hzW
    have hzW' : w2.heap.size + 3 ≤ W.heap.size := by omega
    clear hzW
    go_loopw [7] (fun iv wr => ∃ (i : Nat), i ≤ ps.length ∧ iv = .int .i64 i ∧ Hid (∃ sn f, ORel xs ps W wr (w2.heap.size + 1) (w2.heap.size + 1 + 1) i sn f)) (fun i _ => ps.length - (intOf i).toNat)
    case atStart =>
      exact ⟨0, by omega, rfl, List.replicate xs.length false, fun _ => none, SInv.zero _ _, LInv.zero _ _, by simpa using hown0, hmap0, Keep.refl _ _⟩
    case round =>
      clear hown0 hmap0
      obtain ⟨i, hi, rfl, hrel⟩ := hrel
      obtain ⟨sn, f, ho⟩ := hrel.out
      have HO := hide ho
      clear ho hrel
      have hkeep := HO.out.keep
      have hsz := hkeep.size
      have hbwr : Below w.heap.size w wr := Below.keep_ hbw hkeep (by have := hbw.size; omega) (fun k hk => by have := hb1.size; have := hb2.size; omega)
      have hsame : ∀ b, b < w2.heap.size → wr.heap[b]? = w2.heap[b]? := fun b hb => (hkeep.block b (by omega) (by omega)).trans (hbW.block b hb)
      have HSAME := hide hsame
      clear hsame
      by_cases hlt : i < ps.length
      · obtain ⟨b, o, rfl, hFb, hc0, hc1, hc2⟩ := (HS2.out.mono (w' := wr) (fun b hb' => HSAME.out b hb'.2)).pair_at i hlt
        obtain ⟨f0, hf0⟩ : ∃ f0, f0 = ps[i].from_ := ⟨_, rfl⟩
        have hfrm := HINV.out.frm i hlt
        rw [← hf0] at hc0 hfrm
        obtain ⟨hfx, hfk⟩ := hfrm
        obtain ⟨bx, ox, Ax, cx, rfl, hFx, -, hx0, hx1, -⟩ := (HX.out.mono (w' := wr) (fun b hb' => (HSAME.out b (by have := HF.out b hb'; omega)).trans ((hb2.block b (by have := HF.out b hb'; omega)).trans (hb1.block b (HF.out b hb'))))).event_at f0 hfx
        have hbb : b < wr.heap.size := by have := hFb.2; omega
        have hbx : bx < wr.heap.size := by have := HF.out bx hFx; omega
        have hS0 : w2.heap.size + 1 < wr.heap.size := by omega
        have hkind : xs[f0].kind = 0 := by rw [← ev_eq hfx]; exact hfk
        rw [hkind] at hx1
        have hsl := HO.out.s.1
        have hsn : sn[f0]? = some false := by
          have h1 := HINV.out.fresh_from HO.out.s hlt
          rw [← hf0] at h1
          rw [List.getElem?_eq_getElem (by omega)] at h1 ⊢
          cases h : sn[f0] with
          | true => rw [h] at h1; exact absurd rfl h1
          | false => rfl
        obtain ⟨gS, capS, eS, -, -, -, hScell, hSfro⟩ := own_slice (n := sn.length) HO.out.own (by omega)
        obtain ⟨rfl, -⟩ : w2.heap.size + 1 = gS ∧ xs.length = capS := by
          injection eS with e1 e2 e3
          injection e1 with e1
          injection e1 with e1
          exact ⟨e1, e3⟩
        have hs0 : wr.cell? ⟨w2.heap.size + 1, f0, none⟩ = some (.bool false) := hScell f0 _ (by
          have := flat_get encB_len sn f0 0 (by omega) (by omega)
          rw [List.getElem?_eq_getElem (show f0 < sn.length by omega)] at hsn
          injection hsn with hsn
          simpa [encB, hsn] using this)
        have hsfr := hSfro f0
        have HSC := hide hScell
        have HSF := hide hSfro
        clear hScell hSfro eS
        have hlast := HINV.out.last_ok HO.out.l hlt
        rw [← hf0, ev_eq hfx] at hlast
        obtain ⟨lv, hlv⟩ : ∃ lv, lv = (f xs[f0].proc).getD 0 := ⟨_, rfl⟩
        rw [← hlv] at hlast
        obtain ⟨hl0, hl1⟩ := hlast
        have hlook := hide (show ((lastMap f) xs[f0].proc).getD (.int .i64 0) = .int .i64 lv by rw [hlv]; unfold lastMap; cases f xs[f0].proc <;> rfl)
        have HLV := hide hlv
        clear hlv
        have hSX : w2.heap.size + 1 ≠ wr.heap.size := by omega
        have hff0 : (0 : Int) ≤ (f0 : Int) := Int.natCast_nonneg _
        have hff1 : (f0 : Int) < (xs.length : Int) := by omega
        have hi0 : (0 : Int) ≤ (i : Int) := Int.natCast_nonneg _
        have hi1 : (i : Int) < (ps.length : Int) := by omega
        have HF0 := hide hf0
        clear hf0 hsn hkind hfk
        have hd1 : decide ((f0 : Int) < 0) = false := decide_eq_false (by omega)
        have hd2 : decide (xs.length ≤ f0) = false := decide_eq_false (by omega)
        by_cases hpos : i ≤ 0
        · have hd3 : decide (0 < i) = false := decide_eq_false (by omega)
          go_wp2_with fail
          go_quiet (fail)
          have HD := hide (And.intro hd1 hd2)
          clear hd1 hd2
          have hd5 : decide (lv < 0) = false := decide_eq_false (by omega)
          have hd6 : decide ((f0 : Int) < lv) = false := decide_eq_false (by omega)
          rcases HINV.out.to_ i hlt with ⟨ht1, ht2⟩ | ⟨t, ht1, htf, htn, htk, hts, htp, -⟩
          · have hstp := hide (HO.out.s.step hlt (by rw [← HF0.out]; omega) (by rw [ht1]; omega))
            go_wp2_with (first
              | (at_lookup; refine wp_lookup1_g key2 ((HO.out.map.same (Below.heap_alloc _ _ _ HO.out.map.lt)).drewN _) (by first | rfl | (simp [Region.wanted, yielded]; done)) _ _ 35 rfl Try.underlying35 (zero3 _) xs[f0].proc rfl rfl ?_; rw [hlook.out])
              | (at_mapUpdate; refine wp_update key2 (((HO.out.map.same (Below.heap_alloc _ _ _ HO.out.map.lt)).drewN _).same (Below.heap_setCell _ _ _ _ (by show _ ≠ w2.heap.size + 1; omega))) rfl _ _ _ 35 rfl Try.underlying35 xs[f0].proc (.int .i64 (-1)) rfl rfl rfl ?_; intro w4 hmap4 hk4 hs4; have HS4 := hide hs4; clear hs4; have hX1 : w4.cell? ⟨wr.heap.size, 1, none⟩ = some (.int .i64 (-1)) := hk4.cell (by simp [go_sem, hSX]) (show ¬ wr.heap.size = w2.heap.size + 1 + 1 by omega); have hX2 : w4.cell? ⟨wr.heap.size, 2, none⟩ = some (.int .i64 3) := hk4.cell (by simp [go_sem, hSX]) (show ¬ wr.heap.size = w2.heap.size + 1 + 1 by omega)))
            have hmem := omem_set (wx := _) HO.out.own hsl.symm HO.out.keep (show Below _ _ _ by repeat (first | assumption | (with_reducible exact Below.refl _ _) | (with_reducible apply below_drewN) | (with_reducible apply Below.drew) | (with_reducible refine Below.alloc2_ ?_ (by first | assumption | exact Nat.le_refl _ | omega | (simp; done) | (simp; omega)) _) | (with_reducible refine Below.setCell ?_ (by first | assumption | exact Nat.le_refl _ | omega | (simp; done) | (simp; omega)) _) | (with_reducible refine Below.then2_ ?_ (by assumption) (by first | assumption | exact Nat.le_refl _ | omega | (simp; done) | (simp; omega))) | exact Below.drew (by assumption) | exact Below.drew (Below.refl _ _))) hk4 (by omega) (by omega)
            have hl4 := HO.out.l.step hlt
            rw [← HF0.out, ev_eq hfx, ht1] at hl4
            rw [← HF0.out] at hstp
            refine ⟨⟨i + 1, by omega, by go_num, sn.set f0 true, upd f xs[f0].proc (some (-1)), hstp, hl4, hmem.1, by rw [lastMap_upd]; exact hmap4, hmem.2⟩, by simp [intOf]; omega⟩
          · have hstp := hide (HO.out.s.step2 hlt (by rw [← HF0.out]; omega) ht1 htn)
            rw [← HF0.out] at hstp htf htp
            have hne : f0 ≠ t := by omega
            obtain ⟨st, hst⟩ : ∃ st, st = ps[i].status := ⟨_, rfl⟩
            rw [← hst] at hc2 htk hts
            rw [ht1] at hc1
            have hd7 : decide ((t : Int) < 0) = false := decide_eq_false (by omega)
            have HT := hide (And.intro ht1 (And.intro htk (And.intro htp hts)))
            have hd8 : decide (xs.length ≤ t) = false := decide_eq_false (by omega)
            have hd9 : decide (t ≤ f0) = false := decide_eq_false (by omega)
            have hd10 : (st == 0) = false := by simpa using hts
            have HST := hide hst
            clear ht1 htk htp hts hst
            go_wp2_with (first
              | (at_lookup; refine wp_lookup1_g key2 ((HO.out.map.same (Below.heap_alloc _ _ _ HO.out.map.lt)).drewN _) (by first | rfl | (simp [Region.wanted, yielded]; done)) _ _ 35 rfl Try.underlying35 (zero3 _) xs[f0].proc rfl rfl ?_; rw [hlook.out])
              | (at_mapUpdate; refine wp_update key2 (((HO.out.map.same (Below.heap_alloc _ _ _ HO.out.map.lt)).drewN _).same (Below.heap_setCell _ _ _ _ (by show _ ≠ w2.heap.size + 1; omega))) rfl _ _ _ 35 rfl Try.underlying35 xs[f0].proc (.int .i64 (-1)) rfl rfl rfl ?_; intro w4 hmap4 hk4 hs4; have HS4 := hide hs4; clear hs4; have hX1 : w4.cell? ⟨wr.heap.size, 1, none⟩ = some (.int .i64 (t)) := hk4.cell (by simp [go_sem, hSX, HT.out.1, ← HST.out]) (show ¬ wr.heap.size = w2.heap.size + 1 + 1 by omega); have hX2 : w4.cell? ⟨wr.heap.size, 2, none⟩ = some (.int .i64 st) := hk4.cell (by simp [go_sem, hSX, HT.out.1, ← HST.out]) (show ¬ wr.heap.size = w2.heap.size + 1 + 1 by omega); have hX0 : w4.cell? ⟨wr.heap.size, 0, none⟩ = some (.int .i64 f0) := hk4.cell (by simp [go_sem, hSX]) (show ¬ wr.heap.size = w2.heap.size + 1 + 1 by omega)))
            have hmem := omem_set (wx := _) HO.out.own hsl.symm HO.out.keep (show Below _ _ _ by repeat (first | assumption | (with_reducible exact Below.refl _ _) | (with_reducible apply below_drewN) | (with_reducible apply Below.drew) | (with_reducible refine Below.alloc2_ ?_ (by first | assumption | exact Nat.le_refl _ | omega | (simp; done) | (simp; omega)) _) | (with_reducible refine Below.setCell ?_ (by first | assumption | exact Nat.le_refl _ | omega | (simp; done) | (simp; omega)) _) | (with_reducible refine Below.then2_ ?_ (by assumption) (by first | assumption | exact Nat.le_refl _ | omega | (simp; done) | (simp; omega))) | exact Below.drew (by assumption) | exact Below.drew (Below.refl _ _))) hk4 (by omega) (by omega)
            obtain ⟨hown4, hkeep4⟩ := hmem
            have HK4 := hide hkeep4
            have hz4 := hkeep4.size
            clear hkeep4
            have hcell4 := own_cell hown4 (by simp [hsl]) t (by simp [hsl]; exact htn)
            have hfr4 : (sn.set f0 true)[t]'(by simp [hsl]; exact htn) = false := by
              have h1 := HINV.out.fresh_to HO.out.s hlt HT.out.1
              rw [← HF0.out] at h1
              rw [List.getElem?_eq_getElem (by simp [hsl]; exact htn)] at h1
              cases h : (sn.set f0 true)[t]'(by simp [hsl]; exact htn) with
              | true => rw [h] at h1; exact absurd rfl h1
              | false => rfl
            rw [hfr4] at hcell4
            obtain ⟨hcT, hfT⟩ := hcell4
            clear hfr4
            have hsame4 : ∀ b, b < w2.heap.size → w4.heap[b]? = w2.heap[b]? := fun b hb => (HK4.out.block b (by omega) (by omega)).trans (hbW.block b hb)
            have HSAME4 := hide hsame4
            clear hsame4
            obtain ⟨by_, oy, Ay, cy, ey, hFy, -, hy0, hy1, -⟩ := (HX.out.mono (w' := w4) (fun b hb' => (HSAME4.out b (by have := HF.out b hb'; omega)).trans ((hb2.block b (by have := HF.out b hb'; omega)).trans (hb1.block b (HF.out b hb'))))).event_at t htn
            obtain ⟨rfl, rfl⟩ : bx = by_ ∧ ox = oy := by simpa using ey
            clear ey
            have hk7 := HT.out.2.1
            have hk8 := HT.out.2.2.1
            rw [ev_eq htn] at hk7 hk8
            rw [ev_eq hfx] at hk8
            rw [hk7] at hy1
            rw [hk8] at hy0
            clear hk7 hk8
            have hff2 : (0 : Int) ≤ (t : Int) := Int.natCast_nonneg _
            have hff3 : (t : Int) < (xs.length : Int) := by omega
            have hz5 : wr.heap.size < w4.heap.size := by rw [HS4.out]; simp
            go_quiet (fail)
            go_wp2_with (first
              | (at_mapUpdate; go_loud (refine wp_update key2 ((hmap4.drewN _).same (Below.heap_setCell _ _ _ _ (by show _ ≠ w2.heap.size + 1; omega))) rfl _ _ _ 35 rfl Try.underlying35 xs[f0].proc (.int .i64 t) rfl rfl rfl ?_; intro w5 hmap5 hk5 hs5; have HS5 := hide hs5; clear hs5)))
            have hl4 := HO.out.l.step hlt
            rw [← HF0.out, ev_eq hfx, HT.out.1] at hl4
            have hmem5 := omem_set (wx := _) hown4 (by simp [hsl]) HK4.out (show Below _ _ _ by repeat (first | assumption | (with_reducible exact Below.refl _ _) | (with_reducible apply below_drewN) | (with_reducible apply Below.drew) | (with_reducible refine Below.alloc2_ ?_ (by first | assumption | exact Nat.le_refl _ | omega | (simp; done) | (simp; omega)) _) | (with_reducible refine Below.setCell ?_ (by first | assumption | exact Nat.le_refl _ | omega | (simp; done) | (simp; omega)) _) | (with_reducible refine Below.then2_ ?_ (by assumption) (by first | assumption | exact Nat.le_refl _ | omega | (simp; done) | (simp; omega))) | exact Below.drew (by assumption) | exact Below.drew (Below.refl _ _))) hk5 (by omega) (by simp [hsl]; exact htn)
            rw [upd_upd] at hmap5
            refine ⟨⟨i + 1, by omega, by go_num, (sn.set f0 true).set t true, upd f xs[f0].proc (some (t : Int)), hstp, hl4, hmem5.1, by rw [lastMap_upd]; exact hmap5, hmem5.2⟩, by simp [intOf]; omega⟩
        · have hpos' : 1 ≤ i := by omega
          have hi2 : (0 : Int) ≤ (i : Int) - 1 := by omega
          have hi3 : (i : Int) - 1 < (ps.length : Int) := by omega
          obtain ⟨b', o', eb, -, hp0, -, -⟩ := (HS2.out.mono (w' := wr) (fun b hb' => HSAME.out b hb'.2)).pair_at (i - 1) (by omega)
          obtain ⟨rfl, rfl⟩ : b = b' ∧ o = o' := by simpa using eb
          clear eb
          have hinc := HINV.out.inc (i - 1) i (by omega) hlt (by omega)
          rw [← HF0.out] at hinc
          obtain ⟨f1, hf1⟩ : ∃ f1, f1 = ps[i - 1].from_ := ⟨_, rfl⟩
          rw [← hf1] at hp0 hinc
          have HF1 := hide hf1
          clear hf1
          have hd3 : decide (0 < i) = true := decide_eq_true (by omega)
          have hd4 : decide (f0 ≤ f1) = false := decide_eq_false (by omega)
          go_wp2_with fail
          go_quiet (fail)
          have HD := hide (And.intro hd1 hd2)
          clear hd1 hd2
          have hd5 : decide (lv < 0) = false := decide_eq_false (by omega)
          have hd6 : decide ((f0 : Int) < lv) = false := decide_eq_false (by omega)
          rcases HINV.out.to_ i hlt with ⟨ht1, ht2⟩ | ⟨t, ht1, htf, htn, htk, hts, htp, -⟩
          · have hstp := hide (HO.out.s.step hlt (by rw [← HF0.out]; omega) (by rw [ht1]; omega))
            go_wp2_with (first
              | (at_lookup; refine wp_lookup1_g key2 ((HO.out.map.same (Below.heap_alloc _ _ _ HO.out.map.lt)).drewN _) (by first | rfl | (simp [Region.wanted, yielded]; done)) _ _ 35 rfl Try.underlying35 (zero3 _) xs[f0].proc rfl rfl ?_; rw [hlook.out])
              | (at_mapUpdate; refine wp_update key2 (((HO.out.map.same (Below.heap_alloc _ _ _ HO.out.map.lt)).drewN _).same (Below.heap_setCell _ _ _ _ (by show _ ≠ w2.heap.size + 1; omega))) rfl _ _ _ 35 rfl Try.underlying35 xs[f0].proc (.int .i64 (-1)) rfl rfl rfl ?_; intro w4 hmap4 hk4 hs4; have HS4 := hide hs4; clear hs4; have hX1 : w4.cell? ⟨wr.heap.size, 1, none⟩ = some (.int .i64 (-1)) := hk4.cell (by simp [go_sem, hSX]) (show ¬ wr.heap.size = w2.heap.size + 1 + 1 by omega); have hX2 : w4.cell? ⟨wr.heap.size, 2, none⟩ = some (.int .i64 3) := hk4.cell (by simp [go_sem, hSX]) (show ¬ wr.heap.size = w2.heap.size + 1 + 1 by omega)))
            have hmem := omem_set (wx := _) HO.out.own hsl.symm HO.out.keep (show Below _ _ _ by repeat (first | assumption | (with_reducible exact Below.refl _ _) | (with_reducible apply below_drewN) | (with_reducible apply Below.drew) | (with_reducible refine Below.alloc2_ ?_ (by first | assumption | exact Nat.le_refl _ | omega | (simp; done) | (simp; omega)) _) | (with_reducible refine Below.setCell ?_ (by first | assumption | exact Nat.le_refl _ | omega | (simp; done) | (simp; omega)) _) | (with_reducible refine Below.then2_ ?_ (by assumption) (by first | assumption | exact Nat.le_refl _ | omega | (simp; done) | (simp; omega))) | exact Below.drew (by assumption) | exact Below.drew (Below.refl _ _))) hk4 (by omega) (by omega)
            have hl4 := HO.out.l.step hlt
            rw [← HF0.out, ev_eq hfx, ht1] at hl4
            rw [← HF0.out] at hstp
            refine ⟨⟨i + 1, by omega, by go_num, sn.set f0 true, upd f xs[f0].proc (some (-1)), hstp, hl4, hmem.1, by rw [lastMap_upd]; exact hmap4, hmem.2⟩, by simp [intOf]; omega⟩
          · have hstp := hide (HO.out.s.step2 hlt (by rw [← HF0.out]; omega) ht1 htn)
            rw [← HF0.out] at hstp htf htp
            have hne : f0 ≠ t := by omega
            obtain ⟨st, hst⟩ : ∃ st, st = ps[i].status := ⟨_, rfl⟩
            rw [← hst] at hc2 htk hts
            rw [ht1] at hc1
            have hd7 : decide ((t : Int) < 0) = false := decide_eq_false (by omega)
            have HT := hide (And.intro ht1 (And.intro htk (And.intro htp hts)))
            have hd8 : decide (xs.length ≤ t) = false := decide_eq_false (by omega)
            have hd9 : decide (t ≤ f0) = false := decide_eq_false (by omega)
            have hd10 : (st == 0) = false := by simpa using hts
            have HST := hide hst
            clear ht1 htk htp hts hst
            go_wp2_with (first
              | (at_lookup; refine wp_lookup1_g key2 ((HO.out.map.same (Below.heap_alloc _ _ _ HO.out.map.lt)).drewN _) (by first | rfl | (simp [Region.wanted, yielded]; done)) _ _ 35 rfl Try.underlying35 (zero3 _) xs[f0].proc rfl rfl ?_; rw [hlook.out])
              | (at_mapUpdate; refine wp_update key2 (((HO.out.map.same (Below.heap_alloc _ _ _ HO.out.map.lt)).drewN _).same (Below.heap_setCell _ _ _ _ (by show _ ≠ w2.heap.size + 1; omega))) rfl _ _ _ 35 rfl Try.underlying35 xs[f0].proc (.int .i64 (-1)) rfl rfl rfl ?_; intro w4 hmap4 hk4 hs4; have HS4 := hide hs4; clear hs4; have hX1 : w4.cell? ⟨wr.heap.size, 1, none⟩ = some (.int .i64 (t)) := hk4.cell (by simp [go_sem, hSX, HT.out.1, ← HST.out]) (show ¬ wr.heap.size = w2.heap.size + 1 + 1 by omega); have hX2 : w4.cell? ⟨wr.heap.size, 2, none⟩ = some (.int .i64 st) := hk4.cell (by simp [go_sem, hSX, HT.out.1, ← HST.out]) (show ¬ wr.heap.size = w2.heap.size + 1 + 1 by omega); have hX0 : w4.cell? ⟨wr.heap.size, 0, none⟩ = some (.int .i64 f0) := hk4.cell (by simp [go_sem, hSX]) (show ¬ wr.heap.size = w2.heap.size + 1 + 1 by omega)))
            have hmem := omem_set (wx := _) HO.out.own hsl.symm HO.out.keep (show Below _ _ _ by repeat (first | assumption | (with_reducible exact Below.refl _ _) | (with_reducible apply below_drewN) | (with_reducible apply Below.drew) | (with_reducible refine Below.alloc2_ ?_ (by first | assumption | exact Nat.le_refl _ | omega | (simp; done) | (simp; omega)) _) | (with_reducible refine Below.setCell ?_ (by first | assumption | exact Nat.le_refl _ | omega | (simp; done) | (simp; omega)) _) | (with_reducible refine Below.then2_ ?_ (by assumption) (by first | assumption | exact Nat.le_refl _ | omega | (simp; done) | (simp; omega))) | exact Below.drew (by assumption) | exact Below.drew (Below.refl _ _))) hk4 (by omega) (by omega)
            obtain ⟨hown4, hkeep4⟩ := hmem
            have HK4 := hide hkeep4
            have hz4 := hkeep4.size
            clear hkeep4
            have hcell4 := own_cell hown4 (by simp [hsl]) t (by simp [hsl]; exact htn)
            have hfr4 : (sn.set f0 true)[t]'(by simp [hsl]; exact htn) = false := by
              have h1 := HINV.out.fresh_to HO.out.s hlt HT.out.1
              rw [← HF0.out] at h1
              rw [List.getElem?_eq_getElem (by simp [hsl]; exact htn)] at h1
              cases h : (sn.set f0 true)[t]'(by simp [hsl]; exact htn) with
              | true => rw [h] at h1; exact absurd rfl h1
              | false => rfl
            rw [hfr4] at hcell4
            obtain ⟨hcT, hfT⟩ := hcell4
            clear hfr4
            have hsame4 : ∀ b, b < w2.heap.size → w4.heap[b]? = w2.heap[b]? := fun b hb => (HK4.out.block b (by omega) (by omega)).trans (hbW.block b hb)
            have HSAME4 := hide hsame4
            clear hsame4
            obtain ⟨by_, oy, Ay, cy, ey, hFy, -, hy0, hy1, -⟩ := (HX.out.mono (w' := w4) (fun b hb' => (HSAME4.out b (by have := HF.out b hb'; omega)).trans ((hb2.block b (by have := HF.out b hb'; omega)).trans (hb1.block b (HF.out b hb'))))).event_at t htn
            obtain ⟨rfl, rfl⟩ : bx = by_ ∧ ox = oy := by simpa using ey
            clear ey
            have hk7 := HT.out.2.1
            have hk8 := HT.out.2.2.1
            rw [ev_eq htn] at hk7 hk8
            rw [ev_eq hfx] at hk8
            rw [hk7] at hy1
            rw [hk8] at hy0
            clear hk7 hk8
            have hff2 : (0 : Int) ≤ (t : Int) := Int.natCast_nonneg _
            have hff3 : (t : Int) < (xs.length : Int) := by omega
            have hz5 : wr.heap.size < w4.heap.size := by rw [HS4.out]; simp
            go_quiet (fail)
            go_wp2_with (first
              | (at_mapUpdate; go_loud (refine wp_update key2 ((hmap4.drewN _).same (Below.heap_setCell _ _ _ _ (by show _ ≠ w2.heap.size + 1; omega))) rfl _ _ _ 35 rfl Try.underlying35 xs[f0].proc (.int .i64 t) rfl rfl rfl ?_; intro w5 hmap5 hk5 hs5; have HS5 := hide hs5; clear hs5)))
            have hl4 := HO.out.l.step hlt
            rw [← HF0.out, ev_eq hfx, HT.out.1] at hl4
            have hmem5 := omem_set (wx := _) hown4 (by simp [hsl]) HK4.out (show Below _ _ _ by repeat (first | assumption | (with_reducible exact Below.refl _ _) | (with_reducible apply below_drewN) | (with_reducible apply Below.drew) | (with_reducible refine Below.alloc2_ ?_ (by first | assumption | exact Nat.le_refl _ | omega | (simp; done) | (simp; omega)) _) | (with_reducible refine Below.setCell ?_ (by first | assumption | exact Nat.le_refl _ | omega | (simp; done) | (simp; omega)) _) | (with_reducible refine Below.then2_ ?_ (by assumption) (by first | assumption | exact Nat.le_refl _ | omega | (simp; done) | (simp; omega))) | exact Below.drew (by assumption) | exact Below.drew (Below.refl _ _))) hk5 (by omega) (by simp [hsl]; exact htn)
            rw [upd_upd] at hmap5
            refine ⟨⟨i + 1, by omega, by go_num, (sn.set f0 true).set t true, upd f xs[f0].proc (some (t : Int)), hstp, hl4, hmem5.1, by rw [lastMap_upd]; exact hmap5, hmem5.2⟩, by simp [intOf]; omega⟩
      · obtain rfl : i = ps.length := by omega
        have hall : ∀ (j : Nat) (hj : j < sn.length), sn[j] = true := by
          intro j hj
          have hjx : j < xs.length := by rw [← HO.out.s.1]; exact hj
          obtain ⟨k, hk, he⟩ := HINV.out.all j hjx
          have := (HO.out.s.2 j).2 ⟨hjx, k, hk, hk, he⟩
          rw [List.getElem?_eq_getElem hj] at this
          injection this
        have HALL := hide hall
        clear hall
        have hsl := HO.out.s.1
        have hS0 : w2.heap.size + 1 < wr.heap.size := by omega
        go_wp2
        go_loopw [10] (fun iv wr2 => ∃ (j : Nat), j ≤ xs.length ∧ iv = .int .i64 j ∧ Hid (wr2 = wr)) (fun i _ => xs.length - (intOf i).toNat)
        case atStart => exact ⟨0, by omega, rfl, rfl⟩
        case round =>
          obtain ⟨j, hj, rfl, hw⟩ := hrel
          have hww := hw.out
          subst hww
          clear hw
          by_cases hlt2 : j < xs.length
          · have hc := own_cell HO.out.own hsl.symm j (by omega)
            rw [HALL.out j (by omega)] at hc
            obtain ⟨hc1, hc2⟩ := hc
            have hj0 : (0 : Int) ≤ (j : Int) := Int.natCast_nonneg _
            have hj1 : (j : Int) < (xs.length : Int) := by omega
            go_wp2
            first | exact ⟨⟨j + 1, by omega, by go_num, by first | trivial | exact rfl⟩, by simp [intOf]; omega⟩ | exact ⟨by ((repeat apply Exists.intro); refine ⟨?_, rfl⟩; exact ⟨j + 1, by omega, by go_num, by first | trivial | exact rfl⟩), by simp [intOf]; omega⟩
          · obtain rfl : j = xs.length := by omega
            go_wp2
            go_ret
            exact ⟨by first | rfl | (simp; done), (show Below _ _ _ by repeat (first | assumption | (with_reducible exact Below.refl _ _) | (with_reducible apply below_drewN) | (with_reducible apply Below.drew) | (with_reducible refine Below.alloc2_ ?_ (by first | assumption | exact Nat.le_refl _ | omega | (simp; done) | (simp; omega)) _) | (with_reducible refine Below.setCell ?_ (by first | assumption | exact Nat.le_refl _ | omega | (simp; done) | (simp; omega)) _) | (with_reducible refine Below.then2_ ?_ (by assumption) (by first | assumption | exact Nat.le_refl _ | omega | (simp; done) | (simp; omega))) | exact Below.drew (by assumption) | exact Below.drew (Below.refl _ _)))⟩
  · have e1 : ((flOf (pairsF xs)).1 != 0) = true := by
      rcases h3 with ⟨h1, _⟩ | ⟨j, h1, _⟩ <;> rw [h1] <;> rfl
    have hps : (psOf (pairsF xs)).length = 0 := by
      rcases h3 with ⟨_, h1⟩ | ⟨j, _, h1, _⟩ <;> rw [h1] <;> rfl
    clear h3
    go_wp2
    go_ret
    exact ⟨by first | rfl | (simp; done), (show Below _ _ _ by repeat (first | assumption | (with_reducible exact Below.refl _ _) | (with_reducible apply below_drewN) | (with_reducible apply Below.drew) | (with_reducible refine Below.alloc2_ ?_ (by first | assumption | exact Nat.le_refl _ | omega | (simp; done) | (simp; omega)) _) | (with_reducible refine Below.setCell ?_ (by first | assumption | exact Nat.le_refl _ | omega | (simp; done) | (simp; omega)) _) | (with_reducible refine Below.then2_ ?_ (by assumption) (by first | assumption | exact Nat.le_refl _ | omega | (simp; done) | (simp; omega))) | exact Below.drew (by assumption) | exact Below.drew (Below.refl _ _)))⟩
end Go.Proofs.Ytjjmedgibcffhaa
