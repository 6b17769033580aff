/- How the solver lies in memory. -/
import Derived.Test.YtafeehlpmdligaaRVa
namespace Go.Proofs.Ytafeehlpmdligaa
open Go.RowKit M
set_option linter.unusedSimpArgs false
set_option linter.unusedVariables false
def i8 (x : Int) : V := .d (.int .i8 x)
def svBox (s : Sv) (na nv nr nd nc nt nl np : Nat) : Blk := .box [.d (.int .i64 s.n), .ms nc 1 0 s.cs.length, .map na, .ms nv 1 0 (s.n + 1), .ms nr 1 0 (s.n + 1), .ms nd 1 0 (s.n + 1), .ms nt 1 0 s.tr.length, .ms nl 1 0 s.lv.length, .d (.int .i64 s.dn), .ms np 1 0 s.pf.length]
/-- Where the solver's rows lie. -/
structure SvE (H0 : Nat → Option Blk) (sp : Nat) (s : Sv) (oc : Int → List Nat) (G : Nat → Option Blk) (na nv nr nd nc nt nl np : Nat) (am : D → Option V) (nx : Int → Nat) (et el : List V) : Prop where
  keep : ∀ m k, H0 m = some k → m < na ∧ G m = some k
  o1 : na < nv
  o2 : nv < nr
  o3 : nr < nd
  o4 : nd < sp
  o5 : sp < nc
  o6 : sp < nt
  o7 : sp < nl
  o8 : sp < np
  e1 : nc ≠ nt
  e2 : nc ≠ nl
  e3 : nc ≠ np
  e4 : nt ≠ nl
  e5 : nt ≠ np
  e6 : nl ≠ np
  box : G sp = some (svBox s na nv nr nd nc nt nl np)
  rv : G nv = some (.row 1 (s.val.map i8))
  rr : G nr = some (.row 1 (s.rea.map nlit))
  rd : G nd = some (.row 1 (s.dep.map nlit))
  rc : G nc = some (.row 1 (s.cs.map fun c => .d (ints c)))
  rt : G nt = some (.row 1 (s.tr.map lit ++ et))
  rl : G nl = some (.row 1 (s.lv.map nlit ++ el))
  rp : G np = some (.row 1 (s.pf.map fun c => .d (ints c)))
  at_ : AtE H0 na am nx oc G
  apart : ∀ l, oc l ≠ [] → sp < nx l ∧ nx l ≠ nc ∧ nx l ≠ nt ∧ nx l ≠ nl ∧ nx l ≠ np
def SvS (H0 : Nat → Option Blk) (sp : Nat) (s : Sv) (G : Nat → Option Blk) : Prop := ∃ na nv nr nd nc nt nl np am nx et el, SvE H0 sp s (ocs s.cs) G na nv nr nd nc nt nl np am nx et el
/-- The same, with all but the trail's row named. -/
def SvF (H0 : Nat → Option Blk) (sp : Nat) (s : Sv) (G : Nat → Option Blk) (na nv nr nd nc nl np : Nat) (am : D → Option V) (nx : Int → Nat) (el : List V) : Prop := ∃ nt et, SvE H0 sp s (ocs s.cs) G na nv nr nd nc nt nl np am nx et el
theorem SvF.s {H0 : Nat → Option Blk} {sp : Nat} {s : Sv} {G : Nat → Option Blk} {na nv nr nd nc nl np : Nat} {am : D → Option V} {nx : Int → Nat} {el : List V} (h : SvF H0 sp s G na nv nr nd nc nl np am nx el) : SvS H0 sp s G := by
  obtain ⟨nt, et, h⟩ := h
  exact ⟨na, nv, nr, nd, nc, nt, nl, np, am, nx, et, el, h⟩
/-- The lengths. -/
structure Sv.Len (s : Sv) : Prop where
  val : s.val.length = s.n + 1
  rea : s.rea.length = s.n + 1
  dep : s.dep.length = s.n + 1
theorem Sv.Wf.len {s : Sv} (h : s.Wf) : s.Len := ⟨h.vlen, h.rlen, h.dlen⟩
section
variable {H0 : Nat → Option Blk} {sp : Nat} {s : Sv} {oc : Int → List Nat} {G : Nat → Option Blk} {na nv nr nd nc nt nl np : Nat} {am : D → Option V} {nx : Int → Nat} {et el : List V}
theorem SvE.nx_old (h : SvE H0 sp s oc G na nv nr nd nc nt nl np am nx et el) {G' : Nat → Option Blk} (hk : ∀ m, m = na ∨ (∃ l, oc l ≠ [] ∧ m = nx l) → G' m = G m) : AtE H0 na am nx (oc) G' := h.at_.same hk
/-- A literal was put. -/
theorem SvE.put (h : SvE H0 sp s oc G na nv nr nd nc nt nl np am nx et el) {G' : Nat → Option Blk} {x : Nat} (l : Int) (why : Nat) (hx : ∀ m k, G m = some k → m < x)
    (h1 : G' sp = some (svBox (s.put l why) na nv nr nd nc x nl np)) (h2 : G' nv = some (.row 1 ((s.put l why).val.map i8))) (h3 : G' nr = some (.row 1 ((s.put l why).rea.map nlit))) (h4 : G' nd = some (.row 1 ((s.put l why).dep.map nlit))) (h5 : G' x = some (.row 1 ((s.put l why).tr.map lit)))
    (h6 : ∀ m k, G m = some k → m ≠ sp → m ≠ nv → m ≠ nr → m ≠ nd → m ≠ nt → G' m = some k) : SvE H0 sp (s.put l why) oc G' na nv nr nd nc x nl np am nx [] el := by
  have hc := hx _ _ h.rc
  have hl := hx _ _ h.rl
  have hp := hx _ _ h.rp
  have hs := hx _ _ h.box
  have ha := hx _ _ h.at_.map
  have a1 := h.o1; have a2 := h.o2; have a3 := h.o3; have a4 := h.o4; have a5 := h.o5; have a6 := h.o6; have a7 := h.o7; have a8 := h.o8
  have b1 := h.e1; have b4 := h.e4; have b5 := h.e5
  refine ⟨fun m k hm => ?_, a1, a2, a3, a4, a5, by omega, a7, a8, by omega, h.e2, h.e3, by omega, by omega, h.e6, h1, h2, h3, h4, ?_, by rw [List.append_nil]; exact h5, ?_, ?_, ?_, fun y hy => ?_⟩
  · obtain ⟨c1, c2⟩ := h.keep m k hm
    exact ⟨c1, h6 m k c2 (by omega) (by omega) (by omega) (by omega) (by omega)⟩
  · exact h6 _ _ h.rc (by omega) (by omega) (by omega) (by omega) b1
  · exact h6 _ _ h.rl (by omega) (by omega) (by omega) (by omega) (Ne.symm b4)
  · exact h6 _ _ h.rp (by omega) (by omega) (by omega) (by omega) (Ne.symm b5)
  · refine h.at_.same fun m hm => ?_
    rcases hm with rfl | ⟨y, hy, rfl⟩
    · rw [h6 _ _ h.at_.map (by omega) (by omega) (by omega) (by omega) (by omega)]; exact h.at_.map.symm
    · obtain ⟨c1, c2, c3, c4, c5⟩ := h.apart y hy
      rw [h6 _ _ (h.at_.some y hy).2.1 (by omega) (by omega) (by omega) (by omega) c3]
      exact (h.at_.some y hy).2.1.symm
  · obtain ⟨c1, c2, c3, c4, c5⟩ := h.apart y hy
    have := hx _ _ (h.at_.some y hy).2.1
    exact ⟨c1, c2, by omega, c4, c5⟩
/-- Only a number in the box has changed. -/
theorem SvE.done (h : SvE H0 sp s oc G na nv nr nd nc nt nl np am nx et el) {G' : Nat → Option Blk} (d : Nat) (h1 : G' sp = some (svBox { s with dn := d } na nv nr nd nc nt nl np)) (h6 : ∀ m, m ≠ sp → G' m = G m) : SvE H0 sp { s with dn := d } oc G' na nv nr nd nc nt nl np am nx et el := by
  have a1 := h.o1; have a2 := h.o2; have a3 := h.o3; have a4 := h.o4; have a5 := h.o5; have a6 := h.o6; have a7 := h.o7; have a8 := h.o8
  refine ⟨fun m k hm => ?_, a1, a2, a3, a4, a5, a6, a7, a8, h.e1, h.e2, h.e3, h.e4, h.e5, h.e6, h1, ?_, ?_, ?_, ?_, ?_, ?_, ?_, ?_, h.apart⟩
  · obtain ⟨c1, c2⟩ := h.keep m k hm
    exact ⟨c1, by rw [h6 m (by omega)]; exact c2⟩
  · rw [h6 _ (by omega)]; exact h.rv
  · rw [h6 _ (by omega)]; exact h.rr
  · rw [h6 _ (by omega)]; exact h.rd
  · rw [h6 _ (by omega)]; exact h.rc
  · rw [h6 _ (by omega)]; exact h.rt
  · rw [h6 _ (by omega)]; exact h.rl
  · rw [h6 _ (by omega)]; exact h.rp
  · refine h.at_.same fun m hm => ?_
    rcases hm with rfl | ⟨y, hy, rfl⟩
    · exact h6 _ (by omega)
    · exact h6 _ (by have := (h.apart y hy).1; omega)
/-- A number is put into a row of the map. -/
theorem SvE.atPut (h : SvE H0 sp s oc G na nv nr nd nc nt nl np am nx et el) {G' : Nat → Option Blk} (l : Int) (x n : Nat) (hx : ∀ m k, G m = some k → m < x) (h1 : G' na = some (.map (.int .i64) (updD am (.int .i64 l) (some (.ms x 1 0 ((oc l).length + 1)))))) (h2 : G' x = some (.row 1 ((oc l ++ [n]).map nlit)))
    (h5 : ∀ m, m ≠ na → m ≠ x → (oc l ≠ [] → m ≠ nx l) → G' m = G m) : SvE H0 sp s (ocPut oc n (-l)) G' na nv nr nd nc nt nl np (updD am (.int .i64 l) (some (.ms x 1 0 ((oc l).length + 1)))) (fun k => if k = l then x else nx k) et el := by
  have a1 := h.o1; have a2 := h.o2; have a3 := h.o3; have a4 := h.o4; have a5 := h.o5; have a6 := h.o6; have a7 := h.o7; have a8 := h.o8
  have hs := hx _ _ h.box
  have old : ∀ m k, G m = some k → na < m → (oc l ≠ [] → m ≠ nx l) → G' m = some k := fun m k hm h3 h4 => by
    rw [h5 m (by omega) (by have := hx m k hm; omega) h4]; exact hm
  have e : ∀ k, ocPut oc n (-l) k = if k = l then oc k ++ [n] else oc k := fun k => by simp [ocPut]
  have low : ∀ m, m ≤ sp → oc l ≠ [] → m ≠ nx l := fun m hm ho => by have := (h.apart l ho).1; omega
  refine ⟨fun m k hm => ?_, a1, a2, a3, a4, a5, a6, a7, a8, h.e1, h.e2, h.e3, h.e4, h.e5, h.e6, ?_, ?_, ?_, ?_, ?_, ?_, ?_, ?_, ?_, ?_⟩
  · obtain ⟨c1, c2⟩ := h.keep m k hm
    exact ⟨c1, by rw [h5 m (by omega) (by have := hx m k c2; omega) (low m (by omega))]; exact c2⟩
  · exact old _ _ h.box (by omega) (low _ (by omega))
  · exact old _ _ h.rv (by omega) (low _ (by omega))
  · exact old _ _ h.rr (by omega) (low _ (by omega))
  · exact old _ _ h.rd (by omega) (low _ (by omega))
  · exact old _ _ h.rc (by omega) fun ho => Ne.symm (h.apart l ho).2.1
  · exact old _ _ h.rt (by omega) fun ho => Ne.symm (h.apart l ho).2.2.1
  · exact old _ _ h.rl (by omega) fun ho => Ne.symm (h.apart l ho).2.2.2.1
  · exact old _ _ h.rp (by omega) fun ho => Ne.symm (h.apart l ho).2.2.2.2
  · refine h.at_.put l h1 h2 ?_ (fun k hk => ?_) (fun k hk ho => ?_)
    · cases e0 : H0 x with
      | none => rfl
      | some k => have := hx _ _ (h.keep _ _ e0).2; omega
    · have := hx _ _ (h.at_.some k hk).2.1; omega
    · have h7 := hx _ _ (h.at_.some k ho).2.1
      exact h5 _ (by have := (h.apart k ho).1; omega) (by omega) fun hol e => hk (h.at_.inj k l ho hol e)
  · intro k hk
    rw [e] at hk
    by_cases hkl : k = l
    · have c1 := hx _ _ h.rc; have c2 := hx _ _ h.rt; have c3 := hx _ _ h.rl; have c4 := hx _ _ h.rp
      simp only [if_pos hkl]
      exact ⟨by omega, by omega, by omega, by omega, by omega⟩
    · rw [if_neg hkl] at hk
      simp only [if_neg hkl]
      exact h.apart k hk
/-- A clause is put behind the others. -/
theorem SvE.clause (h : SvE H0 sp s oc G na nv nr nd nc nt nl np am nx et el) {G' : Nat → Option Blk} (c : List Int) (x : Nat) (hx : ∀ m k, G m = some k → m < x) (h1 : G' sp = some (svBox { s with cs := s.cs ++ [c] } na nv nr nd x nt nl np)) (h2 : G' x = some (.row 1 ((s.cs ++ [c]).map fun c => .d (ints c))))
    (h6 : ∀ m k, G m = some k → m ≠ sp → m ≠ nc → G' m = some k) : SvE H0 sp { s with cs := s.cs ++ [c] } oc G' na nv nr nd x nt nl np am nx et el := by
  have a1 := h.o1; have a2 := h.o2; have a3 := h.o3; have a4 := h.o4; have a5 := h.o5; have a6 := h.o6; have a7 := h.o7; have a8 := h.o8
  have c1 := hx _ _ h.rt; have c2 := hx _ _ h.rl; have c3 := hx _ _ h.rp; have c4 := hx _ _ h.box
  refine ⟨fun m k hm => ?_, a1, a2, a3, a4, by omega, a6, a7, a8, by omega, by omega, by omega, h.e4, h.e5, h.e6, h1, ?_, ?_, ?_, h2, ?_, ?_, ?_, ?_, fun l hl => ?_⟩
  · obtain ⟨d1, d2⟩ := h.keep m k hm
    exact ⟨d1, h6 m k d2 (by omega) (by omega)⟩
  · exact h6 _ _ h.rv (by omega) (by omega)
  · exact h6 _ _ h.rr (by omega) (by omega)
  · exact h6 _ _ h.rd (by omega) (by omega)
  · exact h6 _ _ h.rt (by omega) (Ne.symm h.e1)
  · exact h6 _ _ h.rl (by omega) (Ne.symm h.e2)
  · exact h6 _ _ h.rp (by omega) (Ne.symm h.e3)
  · refine h.at_.same fun m hm => ?_
    rcases hm with rfl | ⟨y, hy, rfl⟩
    · rw [h6 _ _ h.at_.map (by omega) (by omega)]; exact h.at_.map.symm
    · obtain ⟨d1, d2, d3, d4, d5⟩ := h.apart y hy
      rw [h6 _ _ (h.at_.some y hy).2.1 (by omega) d2]
      exact (h.at_.some y hy).2.1.symm
  · obtain ⟨d1, d2, d3, d4, d5⟩ := h.apart l hl
    have := hx _ _ (h.at_.some l hl).2.1
    exact ⟨d1, by omega, d3, d4, d5⟩
/-- The rows that never move are written in place. -/
theorem SvE.rows (h : SvE H0 sp s oc G na nv nr nd nc nt nl np am nx et el) {G' : Nat → Option Blk} (val : List Int) (rea : List Nat) (h2 : G' nv = some (.row 1 (val.map i8))) (h3 : G' nr = some (.row 1 (rea.map nlit))) (h6 : ∀ m, m ≠ nv → m ≠ nr → G' m = G m) :
    SvE H0 sp { s with val := val, rea := rea } oc G' na nv nr nd nc nt nl np am nx et el := by
  have a1 := h.o1; have a2 := h.o2; have a3 := h.o3; have a4 := h.o4; have a5 := h.o5; have a6 := h.o6; have a7 := h.o7; have a8 := h.o8
  refine ⟨fun m k hm => ?_, a1, a2, a3, a4, a5, a6, a7, a8, h.e1, h.e2, h.e3, h.e4, h.e5, h.e6, ?_, h2, h3, ?_, ?_, ?_, ?_, ?_, ?_, h.apart⟩
  · obtain ⟨c1, c2⟩ := h.keep m k hm
    exact ⟨c1, by rw [h6 m (by omega) (by omega)]; exact c2⟩
  · rw [h6 _ (by omega) (by omega)]; exact h.box
  · rw [h6 _ (by omega) (by omega)]; exact h.rd
  · rw [h6 _ (by omega) (by omega)]; exact h.rc
  · rw [h6 _ (by omega) (by omega)]; exact h.rt
  · rw [h6 _ (by omega) (by omega)]; exact h.rl
  · rw [h6 _ (by omega) (by omega)]; exact h.rp
  · refine h.at_.same fun m hm => ?_
    rcases hm with rfl | ⟨y, hy, rfl⟩
    · exact h6 _ (by omega) (by omega)
    · have := (h.apart y hy).1
      exact h6 _ (by omega) (by omega)
/-- Trail and levels are cut. -/
theorem SvE.cut (h : SvE H0 sp s oc G na nv nr nd nc nt nl np am nx et el) {G' : Nat → Option Blk} (to k d : Nat) (h1 : G' sp = some (svBox { s with tr := s.tr.take to, lv := s.lv.take k, dn := d } na nv nr nd nc nt nl np)) (h6 : ∀ m, m ≠ sp → G' m = G m) :
    SvE H0 sp { s with tr := s.tr.take to, lv := s.lv.take k, dn := d } oc G' na nv nr nd nc nt nl np am nx ((s.tr.drop to).map lit ++ et) ((s.lv.drop k).map nlit ++ el) := by
  have a1 := h.o1; have a2 := h.o2; have a3 := h.o3; have a4 := h.o4; have a5 := h.o5; have a6 := h.o6; have a7 := h.o7; have a8 := h.o8
  refine ⟨fun m k hm => ?_, a1, a2, a3, a4, a5, a6, a7, a8, h.e1, h.e2, h.e3, h.e4, h.e5, h.e6, h1, ?_, ?_, ?_, ?_, ?_, ?_, ?_, ?_, h.apart⟩
  · obtain ⟨c1, c2⟩ := h.keep m k hm
    exact ⟨c1, by rw [h6 m (by omega)]; exact c2⟩
  · rw [h6 _ (by omega)]; exact h.rv
  · rw [h6 _ (by omega)]; exact h.rr
  · rw [h6 _ (by omega)]; exact h.rd
  · rw [h6 _ (by omega)]; exact h.rc
  · rw [h6 _ (by omega), ← List.append_assoc, ← List.map_append, List.take_append_drop]; exact h.rt
  · rw [h6 _ (by omega), ← List.append_assoc, ← List.map_append, List.take_append_drop]; exact h.rl
  · rw [h6 _ (by omega)]; exact h.rp
  · refine h.at_.same fun m hm => ?_
    rcases hm with rfl | ⟨y, hy, rfl⟩
    · exact h6 _ (by omega)
    · exact h6 _ (by have := (h.apart y hy).1; omega)
/-- A level is begun. -/
theorem SvE.level (h : SvE H0 sp s oc G na nv nr nd nc nt nl np am nx et el) {G' : Nat → Option Blk} (q x : Nat) (hx : ∀ m k, G m = some k → m < x) (h1 : G' sp = some (svBox { s with lv := s.lv ++ [q] } na nv nr nd nc nt x np)) (h2 : G' x = some (.row 1 ((s.lv ++ [q]).map nlit)))
    (h6 : ∀ m k, G m = some k → m ≠ sp → m ≠ nl → G' m = some k) : SvE H0 sp { s with lv := s.lv ++ [q] } oc G' na nv nr nd nc nt x np am nx et [] := by
  have a1 := h.o1; have a2 := h.o2; have a3 := h.o3; have a4 := h.o4; have a5 := h.o5; have a6 := h.o6; have a7 := h.o7; have a8 := h.o8
  have c1 := hx _ _ h.rt; have c2 := hx _ _ h.rc; have c3 := hx _ _ h.rp; have c4 := hx _ _ h.box
  refine ⟨fun m k hm => ?_, a1, a2, a3, a4, a5, a6, by omega, a8, h.e1, by omega, h.e3, by omega, h.e5, by omega, h1, ?_, ?_, ?_, ?_, ?_, by rw [List.append_nil]; exact h2, ?_, ?_, fun l hl => ?_⟩
  · obtain ⟨d1, d2⟩ := h.keep m k hm
    exact ⟨d1, h6 m k d2 (by omega) (by omega)⟩
  · exact h6 _ _ h.rv (by omega) (by omega)
  · exact h6 _ _ h.rr (by omega) (by omega)
  · exact h6 _ _ h.rd (by omega) (by omega)
  · exact h6 _ _ h.rc (by omega) h.e2
  · exact h6 _ _ h.rt (by omega) h.e4
  · exact h6 _ _ h.rp (by omega) (Ne.symm h.e6)
  · refine h.at_.same fun m hm => ?_
    rcases hm with rfl | ⟨y, hy, rfl⟩
    · rw [h6 _ _ h.at_.map (by omega) (by omega)]; exact h.at_.map.symm
    · obtain ⟨d1, d2, d3, d4, d5⟩ := h.apart y hy
      rw [h6 _ _ (h.at_.some y hy).2.1 (by omega) d4]
      exact (h.at_.some y hy).2.1.symm
  · obtain ⟨d1, d2, d3, d4, d5⟩ := h.apart l hl
    have := hx _ _ (h.at_.some l hl).2.1
    exact ⟨d1, d2, d3, by omega, d5⟩
/-- A clause is put behind the proof. -/
theorem SvE.proof (h : SvE H0 sp s oc G na nv nr nd nc nt nl np am nx et el) {G' : Nat → Option Blk} (c : List Int) (x : Nat) (hx : ∀ m k, G m = some k → m < x) (h1 : G' sp = some (svBox { s with pf := s.pf ++ [c] } na nv nr nd nc nt nl x)) (h2 : G' x = some (.row 1 ((s.pf ++ [c]).map fun c => .d (ints c))))
    (h6 : ∀ m k, G m = some k → m ≠ sp → m ≠ np → G' m = some k) : SvE H0 sp { s with pf := s.pf ++ [c] } oc G' na nv nr nd nc nt nl x am nx et el := by
  have a1 := h.o1; have a2 := h.o2; have a3 := h.o3; have a4 := h.o4; have a5 := h.o5; have a6 := h.o6; have a7 := h.o7; have a8 := h.o8
  have c1 := hx _ _ h.rt; have c2 := hx _ _ h.rc; have c3 := hx _ _ h.rl; have c4 := hx _ _ h.box
  refine ⟨fun m k hm => ?_, a1, a2, a3, a4, a5, a6, a7, by omega, h.e1, h.e2, by omega, h.e4, by omega, by omega, h1, ?_, ?_, ?_, ?_, ?_, ?_, h2, ?_, fun l hl => ?_⟩
  · obtain ⟨d1, d2⟩ := h.keep m k hm
    exact ⟨d1, h6 m k d2 (by omega) (by omega)⟩
  · exact h6 _ _ h.rv (by omega) (by omega)
  · exact h6 _ _ h.rr (by omega) (by omega)
  · exact h6 _ _ h.rd (by omega) (by omega)
  · exact h6 _ _ h.rc (by omega) h.e3
  · exact h6 _ _ h.rt (by omega) h.e5
  · exact h6 _ _ h.rl (by omega) h.e6
  · refine h.at_.same fun m hm => ?_
    rcases hm with rfl | ⟨y, hy, rfl⟩
    · rw [h6 _ _ h.at_.map (by omega) (by omega)]; exact h.at_.map.symm
    · obtain ⟨d1, d2, d3, d4, d5⟩ := h.apart y hy
      rw [h6 _ _ (h.at_.some y hy).2.1 (by omega) d5]
      exact (h.at_.some y hy).2.1.symm
  · obtain ⟨d1, d2, d3, d4, d5⟩ := h.apart l hl
    have := hx _ _ (h.at_.some l hl).2.1
    exact ⟨d1, d2, d3, d4, by omega⟩
end
end Go.Proofs.Ytafeehlpmdligaa
