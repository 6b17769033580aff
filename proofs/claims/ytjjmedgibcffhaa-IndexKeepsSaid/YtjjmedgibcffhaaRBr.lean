/- The older contracts as contracts of pure functions. -/
import Derived.Test.YtjjmedgibcffhaaRMd
import Derived.Test.YtjjmedgibcffhaaRConv
import Derived.Test.YtjjmedgibcffhaaRPairsR
import Derived.Test.YtjjmedgibcffhaaRRefPairs
namespace Go.Proofs.Ytjjmedgibcffhaa
open Go.RowKit M
set_option linter.unusedSimpArgs false
set_option linter.unusedVariables false
def evs (xs : List EventD) : D := .sl (xs.map encEvent)
def encPair (p : PairD) : D := .agg [.int .i64 p.from_, .int .i64 p.to_, .int .i64 p.status]
/-- The ghost state of a call whose new blocks hold pure data. -/
def gNew (g : Gh) (w w' : World) : Gh := { g with F := fun b => g.F b ∨ (w.heap.size ≤ b ∧ b < w'.heap.size) }
theorem callM_new {S : St} {g : Gh} {w w' : World} {r : V} {v : Value} (h1 : RS g w S.get) (h2 : ∀ k, g.U k → k < S.next) (hb : Below w.heap.size w w') (hr : RV (gNew g w w') w' r v) :
    ∃ r' v' S' g', Ending.returned v = .returned v' ∧ Ext g w g' w' ∧ RS g' w' S'.get ∧ (∀ k, g'.U k → k < S'.next) ∧ RV g' w' r' v' ∧ (r' = r ∧ S' = S) := by
  have hE : Ext g w (gNew g w w') w' := ⟨fun _ h => h, fun _ _ => rfl, fun _ h => .inl h, fun b hF => hb.block b (h1.ltF b hF), hb.os, hb.tape, hb.output, hb.size⟩
  refine ⟨r, v, S, gNew g w w', rfl, hE, h1.ext hE (fun n b hn hbk => hb.block b (h1.notF n b hn hbk).2) (fun b hF => ?_), h2, hr, rfl, rfl⟩
  rcases hF with hF | ⟨hl, hr⟩
  · exact ⟨Nat.lt_of_lt_of_le (h1.ltF b hF) hb.size, fun n hn e => (h1.notF n b hn e).1 hF⟩
  · exact ⟨hr, fun n hn e => by have := (h1.notF n b hn e).2; omega⟩
theorem one_arg {vals : Array Value} {g : Gh} {w : World} {x : D} (h1 : vals.size = 1) (h2 : ∀ (j : Nat) (y : V), [V.d x][j]? = some y → RV g w y (vals.getD j undef)) : ∃ v, vals = #[v] ∧ RD g.F w x v := by
  obtain ⟨l⟩ := vals
  match l, h1 with
  | [v], _ =>
    have := h2 0 _ rfl
    simp at this
    cases this with | d this => exact ⟨v, rfl, this⟩
theorem two_args {vals : Array Value} {g : Gh} {w : World} {x y : D} (h1 : vals.size = 2) (h2 : ∀ (j : Nat) (z : V), [V.d x, V.d y][j]? = some z → RV g w z (vals.getD j undef)) : ∃ v u, vals = #[v, u] ∧ RD g.F w x v ∧ RD g.F w y u := by
  obtain ⟨l⟩ := vals
  match l, h1 with
  | [v, u], _ =>
    have a := h2 0 _ rfl
    have b := h2 1 _ rfl
    simp at a b
    cases a with | d a => cases b with | d b => exact ⟨v, u, rfl, a, b⟩
theorem pureC_events {f : FuncId} {xs : List EventD} {r : V} (hok : SlOk EventOk 40 xs)
    (h : ∀ (F : Nat → Prop) (w : World) (A : Option Addr) (c : Nat), Ty.event.Sl F w A xs → (∀ b, F b → b < w.heap.size) → Calls Try.prog f #[.slice A xs.length c] w fun e w' => ∃ v, e = .returned v ∧ Below w.heap.size w w' ∧ ∀ g : Gh, RV (gNew g w w') w' r v) :
    PureC Try.prog f [.d (evs xs)] r := by
  intro S g w vals h1 h2 h3 h4
  obtain ⟨v, rfl, hv⟩ := one_arg h3 h4
  obtain ⟨A, c, rfl, hs, _⟩ := conv_events hv hok
  refine (h g.F w A c hs h1.ltF).mono ?_
  rintro e w' ⟨v, rfl, hb, hr⟩
  exact callM_new h1 h2 hb (hr g)
theorem check44 (xs : List EventD) (hok : SlOk EventOk 40 xs) : PureC Try.prog 44 [.d (evs xs)] (.d (.int .i64 (errnoOf (listOk xs)))) :=
  pureC_events hok fun F w A c hs hF => (check_calls xs F w A c hs hF).mono fun e w' ⟨he, hb⟩ => ⟨_, he, hb, fun g => .d (.int _ _)⟩
theorem check45 (xs : List EventD) (hok : SlOk EventOk 40 xs) : PureC Try.prog 45 [.d (evs xs)] (.d (.int .i64 (errnoOf (listOk xs)))) :=
  pureC_events hok fun F w A c hs hF => (refcheck_calls xs F w A c hs hF).mono fun e w' ⟨he, hb⟩ => ⟨_, he, hb, fun g => .d (.int _ _)⟩
/-- What Pairs answers. -/
noncomputable def pairsV (xs : List EventD) : V := .tup [.d (.sl ((psOf (pairsF xs)).map encPair)), .d (.agg [.int .i64 (flOf (pairsF xs)).1, .int .i64 (flOf (pairsF xs)).2])]
theorem tupRV {g : Gh} {w : World} {x y : V} {a b : Value} (hx : RV g w x a) (hy : RV g w y b) : RV g w (.tup [x, y]) (.tuple #[a, b]) := tupRV2 hx hy
theorem aggRD2 {F : Nat → Prop} {w : World} {a b : Int} : RD F w (.agg [.int .i64 a, .int .i64 b]) (.agg #[.int .i64 a, .int .i64 b]) := by
  refine .agg _ _ rfl fun j z hz => ?_
  match j, hz with
  | 0, hz => simp at hz; subst hz; exact .int _ _
  | 1, hz => simp at hz; subst hz; exact .int _ _
  | j + 2, hz => simp at hz
theorem pairs_rv {xs : List EventD} {w w' : World} {e : Ending} (h : PairsPost w (pairsF xs) e w') : ∃ v, e = .returned v ∧ Below w.heap.size w w' ∧ ∀ g : Gh, RV (gNew g w w') w' (pairsV xs) v := by
  obtain ⟨hb, h⟩ := h
  have hlen := psOf_len xs
  unfold pairsV
  revert h hlen
  cases pairsF xs with
  | error ea =>
    intro h _
    exact ⟨_, h, hb, fun g => tupRV (.d (.slNil _ _)) (.d aggRD2)⟩
  | ok ps =>
    rintro ⟨v, rfl, hown⟩ hlen
    have hlen : ps.length ≤ 256 := hlen
    obtain ⟨A', c', rfl, hc, hs⟩ := own_sl (t := Ty.pair) (enc := encP) encP_len (by decide) (fun _ _ _ => rfl) (F := Fresh w w') hown (fun b h1 h2 => ⟨h1, h2⟩) (show ps.length * 24 ≤ _ by omega)
    refine ⟨_, rfl, hb, fun g => tupRV (.d ?_) (.d aggRD2)⟩
    rcases hs.2 with h0 | ⟨b, o, rfl, hFb, hx⟩
    · have : ps = [] := h0
      subst this
      exact .slNil _ _
    · have key : ∀ (i : Nat) (p : PairD), ps[i]? = some p → ∀ j v, (encP p)[j]? = some v → w'.cell? ⟨b, o + i * 3 + j, none⟩ = some v := fun i p hp j v hv => by
        obtain ⟨cs, hK, hcell⟩ := hx i p hp
        have : cs = encP p := hK
        subst this
        exact hcell j v hv
      have hget : ∀ (i : Nat) (x : D), (ps.map encPair)[i]? = some x → ∃ p, ps[i]? = some p ∧ x = encPair p := fun i x hx => by
        simp only [List.getElem?_map, Option.map_eq_some_iff] at hx
        obtain ⟨p, hp, rfl⟩ := hx
        exact ⟨p, hp, rfl⟩
      have hl : (psOf (.ok ps : Except (Int × Int) (List PairD))).length = (ps.map encPair).length := by simp [psOf]
      show RD _ w' (.sl (ps.map encPair)) (.slice (some ⟨b, o, none⟩) ps.length c')
      have := RD.sl (F := (gNew g w w').F) (w := w') (ps.map encPair) b o c' 3 (fun i j => match ps[i]? with | some p => (encP p).getD j undef | none => undef) (.inr hFb) (by simpa using hc)
        (fun i x hx => by obtain ⟨p, _, rfl⟩ := hget i x hx; rfl)
        (fun i j x y hx hy => by
          obtain ⟨p, hp, rfl⟩ := hget i x hx
          simp only [hp]
          have hj : j < 3 := (List.getElem?_eq_some_iff.1 hy).1
          refine key i p hp j _ ?_
          match j, hj with
          | 0, _ => rfl
          | 1, _ => rfl
          | 2, _ => rfl)
        (fun i j x y hx hy => by
          obtain ⟨p, hp, rfl⟩ := hget i x hx
          simp only [hp]
          match j, hy with
          | 0, hy => simp [encPair, D.cells] at hy; subst hy; exact .int _ _
          | 1, hy => simp [encPair, D.cells] at hy; subst hy; exact .int _ _
          | 2, hy => simp [encPair, D.cells] at hy; subst hy; exact .int _ _
          | j + 3, hy => simp [encPair, D.cells] at hy)
      simpa using this
theorem pairs19 (xs : List EventD) (hok : SlOk EventOk 40 xs) : PureC Try.prog 19 [.d (evs xs)] (pairsV xs) :=
  pureC_events hok fun F w A c hs hF => (pairs_calls xs F w A c hs hF).mono fun e w' h => pairs_rv h
theorem pairs21 (xs : List EventD) (hok : SlOk EventOk 40 xs) : PureC Try.prog 21 [.d (evs xs)] (pairsV xs) :=
  pureC_events hok fun F w A c hs hF => (refpairs_calls xs F w A c hs hF).mono fun e w' h => pairs_rv h
end Go.Proofs.Ytjjmedgibcffhaa
