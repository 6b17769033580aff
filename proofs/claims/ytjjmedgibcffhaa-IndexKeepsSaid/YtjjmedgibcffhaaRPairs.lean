/- pair.Pairs, walked: what it computes of any list of events. -/
import Derived.Test.YtjjmedgibcffhaaRKa
import Derived.Test.YtjjmedgibcffhaaRMatch
namespace Go.Proofs.Ytjjmedgibcffhaa
open Go.RowKit Go.MapKept
set_option linter.unusedSimpArgs false
set_option linter.unusedVariables false

structure PairD where
  from_ : Nat
  to_ : Int
  status : Int
def encP (p : PairD) : List Value := [.int .i64 p.from_, .int .i64 p.to_, .int .i64 p.status]
theorem encP_len (p : PairD) : (encP p).length = 3 := rfl
theorem encP_one (p : PairD) : ∀ u ∈ encP p, u.oneCell' = true := by
  intro u hu
  simp [encP] at hu
  rcases hu with rfl | rfl | rfl <;> rfl

open Classical in
/-- One more event: the pairs, and the pair of each busy process. -/
noncomputable def pairStep (l : List EventD) (i : Nat) (e : EventD) (ps : List PairD) (op : Int → Option Nat) : Option (List PairD × (Int → Option Nat)) :=
  match op e.proc with
  | some k => if e.kind = 0 then none else
      match ps[k]? with
      | none => none
      | some p => match l[p.from_]? with
        | none => none
        | some b => if matchB b e then some (ps.set k ⟨p.from_, i, e.kind⟩, upd op e.proc none) else none
  | none => if e.kind = 0 then some (ps ++ [⟨i, -1, 3⟩], upd op e.proc (some ps.length)) else none
/-- After j events; the other answer is the place of the first fault. -/
noncomputable def pairsSt (l : List EventD) : Nat → Except Nat (List PairD × (Int → Option Nat))
  | 0 => .ok ([], fun _ => none)
  | j + 1 => match pairsSt l j with
    | .error e => .error e
    | .ok s => match l[j]? with
      | none => .ok s
      | some e => match pairStep l j e s.1 s.2 with
        | none => .error j
        | some s' => .ok s'
noncomputable def pairsF (l : List EventD) : Except (Int × Int) (List PairD) :=
  if listOk l then match pairsSt l l.length with
    | .error j => .error (40, j)
    | .ok s => .ok s.1
  else .error (1, 0)
theorem pairsSt_succ {l : List EventD} {j : Nat} {ps : List PairD} {op : Int → Option Nat} (h : pairsSt l j = .ok (ps, op)) (hj : j < l.length) :
    pairsSt l (j + 1) = match pairStep l j l[j] ps op with | none => .error j | some s' => .ok s' := by
  simp only [pairsSt, h, List.getElem?_eq_getElem hj]
theorem pairsSt_bad {l : List EventD} {j e : Nat} (h : pairsSt l j = .error e) : ∀ m, j ≤ m → pairsSt l m = .error e := by
  intro m hm
  induction m with
  | zero => obtain rfl : j = 0 := by omega
            exact h
  | succ m ih =>
    rcases Nat.lt_or_ge m j with hl | hl
    · obtain rfl : j = m + 1 := by omega
      exact h
    · simp only [pairsSt, ih hl]
/-- What holds of the state. -/
def PInv (j : Nat) (ps : List PairD) (op : Int → Option Nat) : Prop :=
  ps.length ≤ j ∧ (∀ q k, op q = some k → k < ps.length) ∧ ∀ k (h : k < ps.length), ps[k].from_ < j

def PairsPost (w : World) (r : Except (Int × Int) (List PairD)) (e : Ending) (w' : World) : Prop :=
  Below w.heap.size w w' ∧ match r with
  | .error (c, a) => e = .returned (.tuple #[.slice none 0 0, .agg #[.int .i64 c, .int .i64 a]])
  | .ok ps => ∃ v, e = .returned (.tuple #[v, .agg #[.int .i64 0, .int .i64 0]]) ∧ w'.ownsRow w.heap.size 37 3 v ps.length (ps.flatMap encP)

def opMap (op : Int → Option Nat) : Int → Option Value := fun q => (op q).map fun k : Nat => Value.int .i64 (k : Int)
theorem opMap_upd (op : Int → Option Nat) (k : Int) (x : Option Nat) : opMap (upd op k x) = upd (opMap op) k (x.map fun k : Nat => Value.int .i64 (k : Int)) := by
  funext q
  unfold opMap
  by_cases h : q = k
  · subst h
    rw [upd_same, upd_same]
  · rw [upd_ne _ _ h, upd_ne _ _ h]
def key2 : KeyTy Int Try.prog 2 := KeyTy.int Try.underlying2

/-- The cells of the Fault that will be answered. -/
def RCells (b : Nat) (w : World) : Prop := w.cell? ⟨b, 0, none⟩ = some (.int .i64 0) ∧ w.cell? ⟨b, 1, none⟩ = some (.int .i64 0) ∧ w.frozen? ⟨b, 0, none⟩ = false ∧ w.frozen? ⟨b, 1, none⟩ = false
theorem RCells.lt {b : Nat} {w : World} (h : RCells b w) : b < w.heap.size := World.block_lt_of_cell? w _ h.1
theorem RCells.keep {S : Nat → Prop} {b : Nat} {w w' : World} (h : RCells b w) (hk : Keep S w w') (hS : ¬ S b) : RCells b w' :=
  ⟨hk.cell h.1 hS, hk.cell h.2.1 hS, (hk.frozen h.lt hS).trans h.2.2.1, (hk.frozen h.lt hS).trans h.2.2.2⟩
/-- What holds at the head of a round. -/
structure PRel (l : List EventD) (w : World) (M : Nat) (v : Value) (wr : World) (j : Nat) (ps : List PairD) (op : Int → Option Nat) : Prop where
  st : pairsSt l j = .ok (ps, op)
  inv : PInv j ps op
  own : wr.ownsRow w.heap.size 37 3 v ps.length (ps.flatMap encP)
  ne : ∀ k, v.ownBlock = some k → k ≠ M ∧ k ≠ w.heap.size
  map : MapAt key2 wr M (opMap op)
  M_lt : w.heap.size < M
  r : RCells w.heap.size wr
  bel : Below w.heap.size w wr
theorem PRel.push {l : List EventD} {w : World} {M : Nat} {v v3 : Value} {wr w2 w3 : World} {j : Nat} {ps : List PairD} {op : Int → Option Nat} (h : PRel l w M v wr j ps op) (hj : j < l.length)
    (hop : op l[j].proc = none) (hk : l[j].kind = 0) (hmap : MapAt key2 w2 M (upd (opMap op) l[j].proc (some (.int .i64 (ps.length : Int))))) (hk2 : Keep (fun i => i = M) wr w2)
    (hown : w3.ownsRow w.heap.size 37 3 v3 (ps ++ [(⟨j, -1, 3⟩ : PairD)]).length ((ps ++ [(⟨j, -1, 3⟩ : PairD)]).flatMap encP)) (hk3 : Keep (fun k => v.ownBlock = some k) w2 w3) (hat : v3.ownBlock = v.ownBlock ∨ ∃ b, v3.ownBlock = some b ∧ w2.heap.size ≤ b) :
    ∃ ps' op', PRel l w M v3 w3 (j + 1) ps' op' := by
  refine ⟨ps ++ [⟨j, -1, 3⟩], upd op l[j].proc (some ps.length), ?_, ⟨?_, ?_, ?_⟩, hown, ?_, ?_, h.M_lt, ?_, ?_⟩
  · rw [pairsSt_succ h.st hj]
    simp only [pairStep, hop, hk, if_true]
  · have := h.inv.1; simp; omega
  · intro q k hq
    by_cases e : q = l[j].proc
    · subst e
      rw [upd_same] at hq
      injection hq with hq
      simp
      omega
    · rw [upd_ne _ _ e] at hq
      have := h.inv.2.1 q k hq
      simp
      omega
  · intro k hk'
    rcases Nat.lt_or_ge k ps.length with hlt | hge
    · rw [List.getElem_append_left hlt]
      have := h.inv.2.2 k hlt
      omega
    · rw [List.getElem_append_right hge]
      simp
  · intro k hk'
    rcases hat with hat | ⟨b, hb, hle⟩
    · exact h.ne k (hat ▸ hk')
    · rw [hb] at hk'
      injection hk' with hk'
      have := hmap.lt
      have := h.M_lt
      omega
  · refine (hmap.keep hk3 (fun e => (h.ne _ e).1 rfl)).ext fun q => ?_
    rw [opMap_upd]
    rfl
  · refine (h.r.keep hk2 ?_).keep hk3 (fun e => (h.ne _ e).2 rfl)
    have := h.M_lt
    omega
  · have hs := h.bel.size
    refine Below.keep_ (Below.keep_ h.bel hk2 hs (fun k hk => by have := h.M_lt; omega)) hk3 (Nat.le_trans hs hk2.size) (fun k hk => ?_)
    exact (h.own.lt k hk).1
theorem PRel.bad {l : List EventD} {w : World} {M : Nat} {v : Value} {wr : World} {j : Nat} {ps : List PairD} {op : Int → Option Nat} (h : PRel l w M v wr j ps op) (hok : listOk l = true) (hj : j < l.length)
    (hs : pairStep l j l[j] ps op = none) {w' : World} (hb : Below w.heap.size w w') : PairsPost w (pairsF l) (.returned (.tuple #[.slice none 0 0, .agg #[.int .i64 40, .int .i64 j]])) w' := by
  refine ⟨hb, ?_⟩
  have h1 : pairsSt l (j + 1) = .error j := by rw [pairsSt_succ h.st hj, hs]
  rw [pairsF, if_pos hok, pairsSt_bad h1 l.length (by omega)]
theorem PRel.same {l : List EventD} {w : World} {M : Nat} {v : Value} {wr w3 : World} {j : Nat} {ps : List PairD} {op : Int → Option Nat} (h : PRel l w M v wr j ps op) (hk : Keep (fun _ => False) wr w3) : PRel l w M v w3 j ps op :=
  ⟨h.st, h.inv, own_keep h.own hk (fun _ _ => id), h.ne, h.map.keep hk id, h.M_lt, h.r.keep hk id, Below.keep_ h.bel hk h.bel.size (fun _ => False.elim)⟩
theorem PRel.set {l : List EventD} {w : World} {M : Nat} {wr w2 w3 : World} {j k f g cap : Nat} {ps : List PairD} {op : Int → Option Nat} (h : PRel l w M (.slice (some ⟨g, 0, none⟩) ps.length cap) wr j ps op) (hj : j < l.length)
    (hop : op l[j].proc = some k) (hk : ¬ l[j].kind = 0) (hkp : k < ps.length) (hf : f = ps[k].from_) (hfl : f < l.length) (hm : matchB l[f] l[j] = true)
    (hw : w2.heap = ((wr.setCell ⟨g, k * 3 + 1, none⟩ (.int .i64 j)).setCell ⟨g, k * 3 + 2, none⟩ (.int .i64 l[j].kind)).heap) (hw' : Below 0 wr w2)
    (hmap : MapAt key2 w3 M (upd (opMap op) l[j].proc none)) (hk3 : Keep (fun i => i = M) w2 w3) :
    ∃ ps' op', ps'.length = ps.length ∧ PRel l w M (.slice (some ⟨g, 0, none⟩) ps.length cap) w3 (j + 1) ps' op' := by
  have hgM := (h.ne g rfl).1
  have hgR := (h.ne g rfl).2
  have hset : ∀ b, b ≠ g → w2.heap[b]? = wr.heap[b]? := by
    intro b hb
    rw [hw]
    rw [Below.heap_setCell _ _ _ _ hb, Below.heap_setCell _ _ _ _ hb]
  have hk2 : Keep (fun i => i = g) wr w2 := ⟨hw'.os, hw'.tape, hw'.output, hw'.size, fun b _ hb => hset b hb⟩
  refine ⟨ps.set k ⟨ps[k].from_, j, l[j].kind⟩, upd op l[j].proc none, by simp, ?_, ⟨?_, ?_, ?_⟩, ?_, h.ne, ?_, h.M_lt, ?_, ?_⟩
  · rw [pairsSt_succ h.st hj]
    have h1 : ps[k]? = some ps[k] := List.getElem?_eq_getElem hkp
    have h2 : l[ps[k].from_]? = some l[f] := by rw [← hf]; exact List.getElem?_eq_getElem hfl
    simp only [pairStep, hop, hk, if_false, h1, h2, hm, if_true]
  · have := h.inv.1; simp; omega
  · intro q k' hq
    by_cases e : q = l[j].proc
    · subst e
      rw [upd_same] at hq
      cases hq
    · rw [upd_ne _ _ e] at hq
      have := h.inv.2.1 q k' hq
      simpa using this
  · intro k' hk'
    have hk2' : k' < ps.length := by simpa using hk'
    rw [List.getElem_set]
    split
    · have := h.inv.2.2 k hkp
      simp
      omega
    · have := h.inv.2.2 k' hk2'
      omega
  · refine own_keep ?_ hk3 (fun i hi (e : i = M) => hgM ((show g = i by injection hi).trans e))
    have e1 := (h.own.stored (k * 3 + 1) (.int .i64 j)).1
    have e2 := (e1.stored (k * 3 + 2) (.int .i64 l[j].kind)).1
    rw [flat_set encP_len ps k 1 ⟨ps[k].from_, j, ps[k].status⟩ _ hkp (by omega) rfl] at e2
    rw [flat_set encP_len _ k 2 ⟨ps[k].from_, j, l[j].kind⟩ _ (by simpa using hkp) (by omega) (by simp [encP])] at e2
    simp only [List.set_set, List.length_set] at e2 ⊢
    obtain ⟨a1, a2⟩ := e2
    refine ⟨a1, ?_⟩
    rcases a2 with ⟨a2, _⟩ | ⟨g', cap', cur, a2, a3, a4, a5⟩
    · cases a2
    · exact .inr ⟨g', cap', cur, a2, a3, by rw [hw]; exact a4, a5⟩
  · refine hmap.ext fun q => ?_
    rw [opMap_upd]
    rfl
  · refine (h.r.keep hk2 (fun e => hgR e.symm)).keep hk3 ?_
    have := h.M_lt
    omega
  · have hs := h.bel.size
    refine Below.keep_ (Below.keep_ h.bel hk2 hs (fun i hi => by have := (h.own.lt g rfl).1; omega)) hk3 (Nat.le_trans hs hk2.size) (fun i hi => by have := h.M_lt; omega)
theorem info37 : (Try.prog.info? 37).map (fun i => (i.zero, i.size, i.bytes)) = some (some (.agg #[.int .i64 0, .int .i64 0, .int .i64 0]), 3, 24) := by kernel_rfl
theorem listOk_len {l : List EventD} (h : listOk l = true) : l.length ≤ 256 := by
  unfold listOk at h
  simp only [Bool.and_eq_true, decide_eq_true_eq] at h
  exact h.1
theorem zero3 (w : World) : (zeroValue 3).run Try.prog w = .ok (.int .i64 0) w := by kernel_rfl

set_option maxHeartbeats 1000000 in
set_option maxRecDepth 100000 in
theorem pairs_calls (xs : List EventD) (F : Nat → Prop) (w : World) (A : Option Addr) (c : Nat) (hx : Ty.event.Sl F w A xs) (hF : ∀ b, F b → b < w.heap.size) :
    Calls Try.prog 19 #[.slice A xs.length c] w (PairsPost w (pairsF xs)) := by
  have HX := hide hx
  clear hx
  have HF := hide hF
  clear hF
  have hC := hide (fun o : Obj => check_calls xs F (w.alloc o) A c (HX.out.mono (SameOn.of_below ((Below.refl _ _).alloc (Nat.le_refl _) _) HF.out)) (fun b hb => by have := HF.out b hb; simp; omega))
  have hmm := @run_makeMap Try.prog
  by_cases hok : listOk xs = true
  · have hok' : errnoOf (listOk xs) = 0 := by rw [hok]; rfl
    rw [hok'] at hC
    go_enter Try.func19, Try.ntmps19
    go_wp2_with (go_at_call 44; refine (hC.out _).mono ?_; rintro e w1 ⟨rfl, hb1⟩; obtain ⟨hc1, hf1⟩ := bcell hb1; have hz1 : w.heap.size + 1 ≤ w1.heap.size := by have := hb1.size; simpa using this)
    have hR0 : w1.cell? ⟨w.heap.size, 0, none⟩ = some (.int .i64 0) ∧ w1.cell? ⟨w.heap.size, 1, none⟩ = some (.int .i64 0) ∧ w1.frozen? ⟨w.heap.size, 0, none⟩ = false ∧ w1.frozen? ⟨w.heap.size, 1, none⟩ = false := by
      rw [hc1 _ _ (by simp), hc1 _ _ (by simp), hf1 _ _ (by simp), hf1 _ _ (by simp)]
      simp [go_sem]
    clear hc1 hf1
    have HR0 := hide hR0
    clear hR0 hmm
    have hlen : xs.length ≤ 256 := listOk_len hok
    go_loopw [5, 20] (fun v i wr => ∃ (j : Nat), j ≤ xs.length ∧ i = .int .i64 j ∧ Hid (∃ (ps : List PairD) (op : Int → Option Nat), PRel xs w w1.heap.size v wr j ps op)) (fun _ i _ => xs.length - (intOf i).toNat)
    case atStart =>
      refine ⟨0, by omega, rfl, [], fun _ => none, rfl, ⟨by simp, by simp, by simp⟩, ⟨rfl, .inl ⟨rfl, rfl⟩⟩, fun k hk => by simp [Value.ownBlock] at hk, (MapAt.made key2 w1).ext (fun _ => rfl), by omega, ?_, (show Below _ _ _ by repeat (first | assumption | (with_reducible exact Below.refl _ _) | (with_reducible apply below_drewN) | (with_reducible apply Below.drew) | (with_reducible refine Below.alloc2_ ?_ (by first | assumption | exact Nat.le_refl _ | omega | (simp; done) | (simp; omega)) _) | (with_reducible refine Below.setCell ?_ (by first | assumption | exact Nat.le_refl _ | omega | (simp; done) | (simp; omega)) _) | (with_reducible refine Below.then2_ ?_ (by assumption) (by first | assumption | exact Nat.le_refl _ | omega | (simp; done) | (simp; omega))) | exact Below.drew (by assumption) | exact Below.drew (Below.refl _ _)))⟩
      exact RCells.keep (S := fun _ => False) (by exact HR0.out) (Keep.of_below (show Below _ _ _ by repeat (first | assumption | (with_reducible exact Below.refl _ _) | (with_reducible apply below_drewN) | (with_reducible apply Below.drew) | (with_reducible refine Below.alloc2_ ?_ (by first | assumption | exact Nat.le_refl _ | omega | (simp; done) | (simp; omega)) _) | (with_reducible refine Below.setCell ?_ (by first | assumption | exact Nat.le_refl _ | omega | (simp; done) | (simp; omega)) _) | (with_reducible refine Below.then2_ ?_ (by assumption) (by first | assumption | exact Nat.le_refl _ | omega | (simp; done) | (simp; omega))) | exact Below.drew (by assumption) | exact Below.drew (Below.refl _ _)))) id
    case round =>
      obtain ⟨j, hj, rfl, hrel⟩ := hrel
      obtain ⟨ps, op, hp⟩ := hrel.out
      have HP := hide hp
      clear hp hrel
      clear HR0
      have hb := HP.out.bel
      have hsz := hb.size
      obtain ⟨A5, c5, rfl⟩ := own_shape HP.out.own
      by_cases hlt : j < xs.length
      · obtain ⟨b, o, A', c', rfl, hFb, hv, hc0, hc1, hc2⟩ := (HX.out.mono (w' := wr) (fun b hb' => hb.block b (HF.out b hb'))).event_at j hlt
        have hbb : b < wr.heap.size := by have := HF.out b hFb; omega
        have HV := hide hv
        clear hv
        cases hop : op xs[j].proc with
        | none =>
          have hl := hide (show opMap op xs[j].proc = none by simp [opMap, hop])
          have HOP := hide hop
          clear hop
          by_cases hk : xs[j].kind = 0
          · have hk1 : (xs[j].kind == 0) = true := by simpa using hk
            have HK := hide hk
            clear hk
            go_wp2_with (at_lookup; refine wp_lookup2 key2 (HP.out.map.same (Below.heap_alloc _ _ _ HP.out.map.lt)) rfl _ _ 35 rfl Try.underlying35 (zero3 _) xs[j].proc rfl rfl ?_; rw [hl.out])
            go_quiet (fail)
            go_wp2_with (first
              | (at_mapUpdate; refine wp_update key2 ((HP.out.map.same (Below.heap_alloc _ _ _ HP.out.map.lt)).drewN _) rfl _ _ _ 35 rfl Try.underlying35 xs[j].proc (.int .i64 ps.length) rfl rfl rfl ?_; intro w2 hmap2 hk2 hs2; have HS2 := hide hs2; clear hs2; have hkk := hide ((Keep.of_below (a := wr) (show Below _ _ _ by repeat (first | assumption | (with_reducible exact Below.refl _ _) | (with_reducible apply below_drewN) | (with_reducible apply Below.drew) | (with_reducible refine Below.alloc2_ ?_ (by first | assumption | exact Nat.le_refl _ | omega | (simp; done) | (simp; omega)) _) | (with_reducible refine Below.setCell ?_ (by first | assumption | exact Nat.le_refl _ | omega | (simp; done) | (simp; omega)) _) | (with_reducible refine Below.then2_ ?_ (by assumption) (by first | assumption | exact Nat.le_refl _ | omega | (simp; done) | (simp; omega))) | exact Below.drew (by assumption) | exact Below.drew (Below.refl _ _)))).trans hk2))
              | (at_builtin; go_loud (refine wp_append (enc := encP) encP_len encP_one (W := w2) w.heap.size rfl _ _ 28 37 _ 24 rfl Try.underlying28 info37 rfl (by decide) (by decide) (.slice A5 ps.length c5) ps ⟨j, -1, 3⟩ rfl rfl (own_keep HP.out.own hkk.out fun k hk => (HP.out.ne k hk).1) (by have := hkk.out.size; omega) (by have := HP.out.inv.1; omega) ?_); intro v3 w3 hown3 hk3 hat3 hs3))
            obtain ⟨ps', op', hp'⟩ := HP.out.push hlt HOP.out HK.out hmap2 hkk.out hown3 hk3 hat3
            first | exact ⟨⟨j + 1, by omega, by go_num, ⟨ps', op', hp'⟩⟩, by simp [intOf]; omega⟩ | exact ⟨by ((repeat apply Exists.intro); refine ⟨?_, rfl⟩; exact ⟨j + 1, by omega, by go_num, ⟨ps', op', hp'⟩⟩), by simp [intOf]; omega⟩
          · have hk1 : (xs[j].kind == 0) = false := by simpa using hk
            have HK := hide hk
            clear hk
            obtain ⟨hr0, hr1, hr2, hr3⟩ := HP.out.r
            have hrlt := HP.out.r.lt
            go_wp2_with (at_lookup; refine wp_lookup2 key2 (HP.out.map.same (Below.heap_alloc _ _ _ HP.out.map.lt)) rfl _ _ 35 rfl Try.underlying35 (zero3 _) xs[j].proc rfl rfl ?_; rw [hl.out])
            go_quiet (fail)
            go_wp2
            refine bodyPost_ret (v := .tuple #[.slice none 0 0, .agg #[.int .i64 40, .int .i64 j]]) (by simp [results, Try.results19, go_sem, hr0, hr1, hrlt]) rfl (HP.out.bad hok hlt ?_ (show Below _ _ _ by repeat (first | assumption | (with_reducible exact Below.refl _ _) | (with_reducible apply below_drewN) | (with_reducible apply Below.drew) | (with_reducible refine Below.alloc2_ ?_ (by first | assumption | exact Nat.le_refl _ | omega | (simp; done) | (simp; omega)) _) | (with_reducible refine Below.setCell ?_ (by first | assumption | exact Nat.le_refl _ | omega | (simp; done) | (simp; omega)) _) | (with_reducible refine Below.then2_ ?_ (by assumption) (by first | assumption | exact Nat.le_refl _ | omega | (simp; done) | (simp; omega))) | exact Below.drew (by assumption) | exact Below.drew (Below.refl _ _))))
            simp only [pairStep, HOP.out, HK.out, if_false]
        | some k =>
          have hl := hide (show opMap op xs[j].proc = some (.int .i64 k) by simp [opMap, hop])
          have HOP := hide hop
          clear hop
          obtain ⟨hr0, hr1, hr2, hr3⟩ := HP.out.r
          have hrlt := HP.out.r.lt
          by_cases hk : xs[j].kind = 0
          · have hk1 : (xs[j].kind == 0) = true := by simpa using hk
            have HK := hide hk
            clear hk
            go_wp2_with (at_lookup; refine wp_lookup2 key2 (HP.out.map.same (Below.heap_alloc _ _ _ HP.out.map.lt)) rfl _ _ 35 rfl Try.underlying35 (zero3 _) xs[j].proc rfl rfl ?_; rw [hl.out])
            go_quiet (fail)
            go_wp2
            refine bodyPost_ret (v := .tuple #[.slice none 0 0, .agg #[.int .i64 40, .int .i64 j]]) (by simp [results, Try.results19, go_sem, hr0, hr1, hrlt]) rfl (HP.out.bad hok hlt ?_ (show Below _ _ _ by repeat (first | assumption | (with_reducible exact Below.refl _ _) | (with_reducible apply below_drewN) | (with_reducible apply Below.drew) | (with_reducible refine Below.alloc2_ ?_ (by first | assumption | exact Nat.le_refl _ | omega | (simp; done) | (simp; omega)) _) | (with_reducible refine Below.setCell ?_ (by first | assumption | exact Nat.le_refl _ | omega | (simp; done) | (simp; omega)) _) | (with_reducible refine Below.then2_ ?_ (by assumption) (by first | assumption | exact Nat.le_refl _ | omega | (simp; done) | (simp; omega))) | exact Below.drew (by assumption) | exact Below.drew (Below.refl _ _))))
            simp only [pairStep, HOP.out, HK.out, if_true]
          · have hk1 : (xs[j].kind == 0) = false := by simpa using hk
            have HK := hide hk
            clear hk
            go_wp2_with (at_lookup; refine wp_lookup2 key2 (HP.out.map.same (Below.heap_alloc _ _ _ HP.out.map.lt)) rfl _ _ 35 rfl Try.underlying35 (zero3 _) xs[j].proc rfl rfl ?_; rw [hl.out])
            obtain ⟨g, cap, hA5, hgb, hgw, hcap, hcell, hfro⟩ := own_slice HP.out.own (by have := HP.out.inv.2.1 _ _ HOP.out; omega)
            obtain ⟨rfl, rfl⟩ : A5 = some ⟨g, 0, none⟩ ∧ c5 = cap := by simpa using hA5
            clear hA5
            have hkp := HP.out.inv.2.1 _ _ HOP.out
            have hfj := HP.out.inv.2.2 k hkp
            obtain ⟨f, hf⟩ : ∃ f, f = ps[k].from_ := ⟨_, rfl⟩
            rw [← hf] at hfj
            have hg0 : wr.cell? ⟨g, k * 3, none⟩ = some (.int .i64 (f : Int)) := by
              rw [hf]
              exact hcell (k * 3) _ (by have := flat_get encP_len ps k 0 hkp (by omega); simpa [encP] using this)
            have HF' := hide hf
            clear hf
            have HCELL := hide hcell
            have HFRO := hide hfro
            clear hcell hfro
            obtain ⟨bf, of, Af, cf, hAf, -, hvf, hd0, hd1, hd2⟩ := (HX.out.mono (w' := wr) (fun b hb' => hb.block b (HF.out b hb'))).event_at f (by omega)
            obtain ⟨rfl, rfl⟩ : b = bf ∧ o = of := by simpa using hAf
            clear hAf
            have HVF := hide hvf
            clear hvf
            have hfx : f < xs.length := by omega
            have hf0 : (0 : Int) ≤ (f : Int) := Int.natCast_nonneg _
            have hk0 : (0 : Int) ≤ (k : Int) := Int.natCast_nonneg _
            have hf1 : (f : Int) < (xs.length : Int) := by omega
            have hkp1 : (k : Int) < (ps.length : Int) := by omega
            by_cases hm : matchB xs[f] xs[j] = true
            · have hm1 : (!matchB xs[f] xs[j]) = false := by simpa using hm
              have HM := hide hm
              go_region_held3 (fun w' => w'.cell? ⟨g, k * 3, none⟩ = some (.int .i64 (f : Int)) ∧ w'.cell? ⟨b, o + f * 3, none⟩ = some (.int .i64 xs[f].proc) ∧ w'.cell? ⟨b, o + f * 3 + 1, none⟩ = some (.int .i64 xs[f].kind) ∧ w'.cell? ⟨b, o + f * 3 + 2, none⟩ = some (.slice Af xs[f].calls.length cf) ∧
                  w'.cell? ⟨wr.heap.size, 0, none⟩ = some (.int .i64 xs[j].proc) ∧ w'.cell? ⟨wr.heap.size, 1, none⟩ = some (.int .i64 xs[j].kind) ∧ w'.cell? ⟨wr.heap.size, 2, none⟩ = some (.slice A' xs[j].calls.length c'))
                (first | go_keep | (obtain ⟨q1, q2⟩ := bcell hb3; refine ⟨?_, ?_, ?_, ?_, ?_, ?_, ?_⟩ <;> (rw [q1 _ _ (by first | (simp; done) | (simp; omega))]; (first | (simp [go_sem, *]; done) | (go_simp; done)))))
                ((go_at_call 17; refine (match_calls xs[f] xs[j] F _ _ _ ⟨Af, cf, rfl, HVF.out.mono (SameOn.of_below (show Below _ _ _ by repeat (first | assumption | (with_reducible exact Below.refl _ _) | (with_reducible apply below_drewN) | (with_reducible apply Below.drew) | (with_reducible refine Below.alloc2_ ?_ (by first | assumption | exact Nat.le_refl _ | omega | (simp; done) | (simp; omega)) _) | (with_reducible refine Below.setCell ?_ (by first | assumption | exact Nat.le_refl _ | omega | (simp; done) | (simp; omega)) _) | (with_reducible refine Below.then2_ ?_ (by assumption) (by first | assumption | exact Nat.le_refl _ | omega | (simp; done) | (simp; omega))) | exact Below.drew (by assumption) | exact Below.drew (Below.refl _ _))) fun b hb' => by have := HF.out b hb'; omega)⟩ ⟨A', c', rfl, HV.out.mono (SameOn.of_below (show Below _ _ _ by repeat (first | assumption | (with_reducible exact Below.refl _ _) | (with_reducible apply below_drewN) | (with_reducible apply Below.drew) | (with_reducible refine Below.alloc2_ ?_ (by first | assumption | exact Nat.le_refl _ | omega | (simp; done) | (simp; omega)) _) | (with_reducible refine Below.setCell ?_ (by first | assumption | exact Nat.le_refl _ | omega | (simp; done) | (simp; omega)) _) | (with_reducible refine Below.then2_ ?_ (by assumption) (by first | assumption | exact Nat.le_refl _ | omega | (simp; done) | (simp; omega))) | exact Below.drew (by assumption) | exact Below.drew (Below.refl _ _))) fun b hb' => by have := HF.out b hb'; omega)⟩ (fun b hb' => by have := HF.out b hb'; simp; omega)).mono ?_; rintro e w3 ⟨rfl, hb3⟩))
              have hk3 : Keep (fun _ => False) wr w3 := Keep.of_below (show Below _ _ _ by repeat (first | assumption | (with_reducible exact Below.refl _ _) | (with_reducible apply below_drewN) | (with_reducible apply Below.drew) | (with_reducible refine Below.alloc2_ ?_ (by first | assumption | exact Nat.le_refl _ | omega | (simp; done) | (simp; omega)) _) | (with_reducible refine Below.setCell ?_ (by first | assumption | exact Nat.le_refl _ | omega | (simp; done) | (simp; omega)) _) | (with_reducible refine Below.then2_ ?_ (by assumption) (by first | assumption | exact Nat.le_refl _ | omega | (simp; done) | (simp; omega))) | exact Below.drew (by assumption) | exact Below.drew (Below.refl _ _)))
              have HP3 := hide (HP.out.same hk3)
              obtain ⟨g', cap', hA5, -, hgw3, -, hcell, hfro⟩ := own_slice HP3.out.own (by omega)
              obtain ⟨rfl, rfl⟩ : g = g' ∧ c5 = cap' := by simpa using hA5
              clear hA5
              obtain ⟨hS0, -, -, -, hS4, hS5, hS6⟩ : _ ∧ _ ∧ _ ∧ _ ∧ _ ∧ _ ∧ _ := by assumption
              have hg1 : w3.cell? ⟨g, k * 3 + 1, none⟩ = some (.int .i64 ps[k].to_) := hcell _ _ (by have := flat_get encP_len ps k 1 hkp (by omega); simpa [encP] using this)
              have hg2 : w3.cell? ⟨g, k * 3 + 2, none⟩ = some (.int .i64 ps[k].status) := hcell _ _ (by have := flat_get encP_len ps k 2 hkp (by omega); simpa [encP] using this)
              have hfr1 := hfro (k * 3 + 1)
              have hfr2 := hfro (k * 3 + 2)
              clear hcell hfro
              go_wp2
              go_region
              obtain ⟨W, hW⟩ : ∃ W, W = ((w3.setCell ⟨g, k * 3 + 1, none⟩ (.int .i64 j)).setCell ⟨g, k * 3 + 2, none⟩ (.int .i64 xs[j].kind)).drew := ⟨_, rfl⟩
              have hgM := (HP3.out.ne g rfl).1
              have hMW : W.heap[w1.heap.size]? = w3.heap[w1.heap.size]? := by
                rw [hW]
                exact (Below.heap_setCell _ _ _ _ (Ne.symm hgM)).trans (Below.heap_setCell _ _ _ _ (Ne.symm hgM))
              have hmapW := HP3.out.map.same hMW
              have hEW : W.cell? ⟨wr.heap.size, 0, none⟩ = some (.int .i64 xs[j].proc) := by
                rw [hW]
                have : g ≠ wr.heap.size := by omega
                simp [go_sem, this, hS4]
              have HW := hide hW
              rw [← hW]
              clear hW hMW
              go_wp2_with (at_delete; refine wp_delete key2 hmapW rfl _ _ 35 rfl Try.underlying35 xs[j].proc rfl rfl ?_; intro w4 hmap4 hk4 hs4; have HS4 := hide hs4; clear hs4)
              obtain ⟨ps', op', hl', hp'⟩ := HP3.out.set hlt HOP.out HK.out hkp HF'.out hfx HM.out (w2 := W) (by rw [HW.out]; rfl) (by rw [HW.out]; exact (show Below _ _ _ by repeat (first | assumption | (with_reducible exact Below.refl _ _) | (with_reducible apply below_drewN) | (with_reducible apply Below.drew) | (with_reducible refine Below.alloc2_ ?_ (by first | assumption | exact Nat.le_refl _ | omega | (simp; done) | (simp; omega)) _) | (with_reducible refine Below.setCell ?_ (by first | assumption | exact Nat.le_refl _ | omega | (simp; done) | (simp; omega)) _) | (with_reducible refine Below.then2_ ?_ (by assumption) (by first | assumption | exact Nat.le_refl _ | omega | (simp; done) | (simp; omega))) | exact Below.drew (by assumption) | exact Below.drew (Below.refl _ _)))) hmap4 hk4
              rw [← hl'] at hp'
              first | exact ⟨⟨j + 1, by omega, by go_num, ⟨ps', op', by rw [← hl']; exact hp'⟩⟩, by simp [intOf]; omega⟩ | exact ⟨by ((repeat apply Exists.intro); refine ⟨?_, rfl⟩; exact ⟨j + 1, by omega, by go_num, ⟨ps', op', by rw [← hl']; exact hp'⟩⟩), by simp [intOf]; omega⟩
            · have hm1 : (!matchB xs[f] xs[j]) = true := by simpa using hm
              have HM := hide hm
              go_region_held3 (fun w' => w'.cell? ⟨g, k * 3, none⟩ = some (.int .i64 (f : Int)) ∧ w'.cell? ⟨b, o + f * 3, none⟩ = some (.int .i64 xs[f].proc) ∧ w'.cell? ⟨b, o + f * 3 + 1, none⟩ = some (.int .i64 xs[f].kind) ∧ w'.cell? ⟨b, o + f * 3 + 2, none⟩ = some (.slice Af xs[f].calls.length cf) ∧
                  w'.cell? ⟨wr.heap.size, 0, none⟩ = some (.int .i64 xs[j].proc) ∧ w'.cell? ⟨wr.heap.size, 1, none⟩ = some (.int .i64 xs[j].kind) ∧ w'.cell? ⟨wr.heap.size, 2, none⟩ = some (.slice A' xs[j].calls.length c'))
                (first | go_keep | (obtain ⟨q1, q2⟩ := bcell hb3; refine ⟨?_, ?_, ?_, ?_, ?_, ?_, ?_⟩ <;> (rw [q1 _ _ (by first | (simp; done) | (simp; omega))]; (first | (simp [go_sem, *]; done) | (go_simp; done)))))
                ((go_at_call 17; refine (match_calls xs[f] xs[j] F _ _ _ ⟨Af, cf, rfl, HVF.out.mono (SameOn.of_below (show Below _ _ _ by repeat (first | assumption | (with_reducible exact Below.refl _ _) | (with_reducible apply below_drewN) | (with_reducible apply Below.drew) | (with_reducible refine Below.alloc2_ ?_ (by first | assumption | exact Nat.le_refl _ | omega | (simp; done) | (simp; omega)) _) | (with_reducible refine Below.setCell ?_ (by first | assumption | exact Nat.le_refl _ | omega | (simp; done) | (simp; omega)) _) | (with_reducible refine Below.then2_ ?_ (by assumption) (by first | assumption | exact Nat.le_refl _ | omega | (simp; done) | (simp; omega))) | exact Below.drew (by assumption) | exact Below.drew (Below.refl _ _))) fun b hb' => by have := HF.out b hb'; omega)⟩ ⟨A', c', rfl, HV.out.mono (SameOn.of_below (show Below _ _ _ by repeat (first | assumption | (with_reducible exact Below.refl _ _) | (with_reducible apply below_drewN) | (with_reducible apply Below.drew) | (with_reducible refine Below.alloc2_ ?_ (by first | assumption | exact Nat.le_refl _ | omega | (simp; done) | (simp; omega)) _) | (with_reducible refine Below.setCell ?_ (by first | assumption | exact Nat.le_refl _ | omega | (simp; done) | (simp; omega)) _) | (with_reducible refine Below.then2_ ?_ (by assumption) (by first | assumption | exact Nat.le_refl _ | omega | (simp; done) | (simp; omega))) | exact Below.drew (by assumption) | exact Below.drew (Below.refl _ _))) fun b hb' => by have := HF.out b hb'; omega)⟩ (fun b hb' => by have := HF.out b hb'; simp; omega)).mono ?_; rintro e w3 ⟨rfl, hb3⟩))
              have hk3 : Keep (fun _ => False) wr w3 := Keep.of_below (show Below _ _ _ by repeat (first | assumption | (with_reducible exact Below.refl _ _) | (with_reducible apply below_drewN) | (with_reducible apply Below.drew) | (with_reducible refine Below.alloc2_ ?_ (by first | assumption | exact Nat.le_refl _ | omega | (simp; done) | (simp; omega)) _) | (with_reducible refine Below.setCell ?_ (by first | assumption | exact Nat.le_refl _ | omega | (simp; done) | (simp; omega)) _) | (with_reducible refine Below.then2_ ?_ (by assumption) (by first | assumption | exact Nat.le_refl _ | omega | (simp; done) | (simp; omega))) | exact Below.drew (by assumption) | exact Below.drew (Below.refl _ _)))
              obtain ⟨hr0', hr1', hr2', hr3'⟩ := HP.out.r.keep hk3 id
              have hrlt' := (HP.out.r.keep hk3 id).lt
              go_wp2
              refine bodyPost_ret (v := .tuple #[.slice none 0 0, .agg #[.int .i64 40, .int .i64 j]]) (by simp [results, Try.results19, go_sem, hr0', hr1', hrlt']) rfl (HP.out.bad hok hlt ?_ (show Below _ _ _ by repeat (first | assumption | (with_reducible exact Below.refl _ _) | (with_reducible apply below_drewN) | (with_reducible apply Below.drew) | (with_reducible refine Below.alloc2_ ?_ (by first | assumption | exact Nat.le_refl _ | omega | (simp; done) | (simp; omega)) _) | (with_reducible refine Below.setCell ?_ (by first | assumption | exact Nat.le_refl _ | omega | (simp; done) | (simp; omega)) _) | (with_reducible refine Below.then2_ ?_ (by assumption) (by first | assumption | exact Nat.le_refl _ | omega | (simp; done) | (simp; omega))) | exact Below.drew (by assumption) | exact Below.drew (Below.refl _ _))))
              have h1 : ps[k]? = some ps[k] := List.getElem?_eq_getElem hkp
              have h2 : xs[ps[k].from_]? = some xs[f] := by rw [← HF'.out]; exact List.getElem?_eq_getElem hfx
              simp only [pairStep, HOP.out, HK.out, h1, h2]
              rw [if_neg (by exact id), if_neg HM.out]
      · obtain rfl : j = xs.length := by omega
        obtain ⟨hr0, hr1, hr2, hr3⟩ := HP.out.r
        have hrlt := HP.out.r.lt
        go_wp2
        refine bodyPost_ret (v := .tuple #[.slice A5 ps.length c5, .agg #[.int .i64 0, .int .i64 0]]) (by simp [results, Try.results19, go_sem, hr0, hr1, hrlt]) rfl ⟨(show Below _ _ _ by repeat (first | assumption | (with_reducible exact Below.refl _ _) | (with_reducible apply below_drewN) | (with_reducible apply Below.drew) | (with_reducible refine Below.alloc2_ ?_ (by first | assumption | exact Nat.le_refl _ | omega | (simp; done) | (simp; omega)) _) | (with_reducible refine Below.setCell ?_ (by first | assumption | exact Nat.le_refl _ | omega | (simp; done) | (simp; omega)) _) | (with_reducible refine Below.then2_ ?_ (by assumption) (by first | assumption | exact Nat.le_refl _ | omega | (simp; done) | (simp; omega))) | exact Below.drew (by assumption) | exact Below.drew (Below.refl _ _))), ?_⟩
        rw [pairsF, if_pos hok, HP.out.st]
        refine ⟨_, rfl, ?_⟩
        exact ownsRow_setCell_other (ownsRow_setCell_other HP.out.own (fun e => (HP.out.ne _ e).2 rfl) _) (fun e => (HP.out.ne _ e).2 rfl) _
  · have hok' : errnoOf (listOk xs) = 1 := by unfold errnoOf; rw [if_neg hok]
    rw [hok'] at hC
    go_enter Try.func19, Try.ntmps19
    go_wp2_with (go_at_call 44; refine (hC.out _).mono ?_; rintro e w1 ⟨rfl, hb1⟩; obtain ⟨hc1, hf1⟩ := bcell hb1; have hz1 : w.heap.size + 1 ≤ w1.heap.size := by have := hb1.size; simpa using this)
    refine bodyPost_ret (v := .tuple #[.slice none 0 0, .agg #[.int .i64 1, .int .i64 0]]) (by simp [results, Try.results19, go_sem, hc1, hf1]) rfl ⟨?_, ?_⟩
    · exact (show Below _ _ _ by repeat (first | assumption | (with_reducible exact Below.refl _ _) | (with_reducible apply below_drewN) | (with_reducible apply Below.drew) | (with_reducible refine Below.alloc2_ ?_ (by first | assumption | exact Nat.le_refl _ | omega | (simp; done) | (simp; omega)) _) | (with_reducible refine Below.setCell ?_ (by first | assumption | exact Nat.le_refl _ | omega | (simp; done) | (simp; omega)) _) | (with_reducible refine Below.then2_ ?_ (by assumption) (by first | assumption | exact Nat.le_refl _ | omega | (simp; done) | (simp; omega))) | exact Below.drew (by assumption) | exact Below.drew (Below.refl _ _)))
    · rw [pairsF, if_neg hok]
end Go.Proofs.Ytjjmedgibcffhaa
