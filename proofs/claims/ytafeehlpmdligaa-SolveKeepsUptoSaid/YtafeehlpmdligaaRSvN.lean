/- slices.SortFunc as blame calls it. -/
import Derived.Test.YtafeehlpmdligaaRSvL
namespace Go.Proofs.Ytafeehlpmdligaa
open Go.Shelf Go.RowKit Go.Lib Go.Sort
open M (RS RV RD Gh V St CallM BlkOK Ext hset)
set_option linter.unusedSimpArgs false
set_option linter.unusedVariables false
/-- Cells of a row of numbers. -/
theorem row_cells {g : Gh} {w : World} {H : Nat → Option M.Blk} (hS : RS g w H) {nm : Nat} {xs : List V} (h : H nm = some (.row 1 xs)) (hne : xs ≠ []) :
    ∃ b vs t, (g.ρ nm).blk = some b ∧ w.heap[b]? = some (.cells vs t (0, 0)) ∧ (g.ρ nm).off + (g.ρ nm).tot ≤ vs.size ∧ xs.length ≤ (g.ρ nm).tot ∧ b < w.heap.size ∧ (g.ρ nm).sz = 1 ∧
      ∀ (i : Nat) (x : Int), xs[i]? = some (lit x) → vs[(g.ρ nm).off + i]? = some (.int .i64 x) := by
  obtain ⟨_, h1, h2, h3, h4⟩ := hS.ok nm _ h
  rcases h4 with ⟨_, h5⟩ | ⟨b, vs, t, h5, h6, h7, h8⟩
  · exact absurd h5 hne
  · have hb := (hS.notF nm b (by rw [h]; rfl) h5).2
    refine ⟨b, vs, t, h5, h6, by omega, h2, hb, h1, fun i x hi => ?_⟩
    have hil : i < xs.length := (List.getElem?_eq_some_iff.1 hi).1
    have h9 := h8 i 0 (lit x) (lit x) hi rfl
    have hlt : (g.ρ nm).off + i < vs.size := by omega
    have e : vs.getD ((g.ρ nm).off + i * 1 + 0) undef = vs[(g.ρ nm).off + i] := by
      simp [hlt]
    rw [e] at h9
    rw [Array.getElem?_eq_getElem hlt]
    generalize vs[(g.ρ nm).off + i] = u at h9
    cases h9 with | d h9 =>
    cases h9
    rfl
theorem cell_of {w : World} {b o : Nat} {vs : Array Value} {t : TypeId} {fr : Nat × Nat} {v : Value} (h : w.heap[b]? = some (.cells vs t fr)) (hv : vs[o]? = some v) : w.cell? ⟨b, o, none⟩ = some v := by
  unfold World.cell?
  simp [h, hv]
theorem box_cells {g : Gh} {w : World} {H : Nat → Option M.Blk} (hS : RS g w H) {nm : Nat} {cs : List V} (h : H nm = some (.box cs)) : ∃ b vs t, (g.ρ nm).blk = some b ∧ w.heap[b]? = some (.cells vs t (0, 0)) ∧ vs.size = cs.length ∧ b < w.heap.size ∧ ∀ (j : Nat) (y : V), cs[j]? = some y → ∃ v, vs[j]? = some v ∧ RV g w y v := by
  obtain ⟨_, b, vs, t, h1, h2, h3, h4⟩ := hS.ok nm _ h
  have hb := (hS.notF nm b (by rw [h]; rfl) h1).2
  refine ⟨b, vs, t, h1, h2, h3, hb, fun j y hy => ?_⟩
  have hj : j < vs.size := by rw [h3]; exact (List.getElem?_eq_some_iff.1 hy).1
  have h5 := h4 j y hy
  have e : vs.getD j undef = vs[j] := by simp [hj]
  rw [e] at h5
  exact ⟨vs[j], by simp [hj], h5⟩
/-- Two ways to the same order. -/
theorem sort_unique {dep : List Nat} {xs ys : List Int} (hnd : (xs.map fun x => dep.getD x.natAbs 0).Nodup) (hp : ys.Perm xs) (hs : ys.Pairwise fun a b => dep.getD b.natAbs 0 ≤ dep.getD a.natAbs 0) : ys = sortD dep xs := by
  refine List.Perm.eq_of_pairwise ?_ hs (sortD_sorted dep xs) (hp.trans (sortD_perm dep xs).symm)
  intro a b ha hb h1 h2
  have ha' := hp.mem_iff.1 ha
  have hb' := (sortD_perm dep xs).mem_iff.1 hb
  obtain ⟨i, hi, rfl⟩ := List.getElem_of_mem ha'
  obtain ⟨j, hj, rfl⟩ := List.getElem_of_mem hb'
  have hpw := List.pairwise_iff_getElem.1 hnd
  rcases Nat.lt_trichotomy i j with h | h | h
  · exact absurd (by rw [List.getElem_map, List.getElem_map]; omega) (hpw i j (by simpa using hi) (by simpa using hj) h)
  · subst h; rfl
  · exact absurd (by rw [List.getElem_map, List.getElem_map]; omega) (hpw j i (by simpa using hj) (by simpa using hi) h)
theorem enters80 : ∀ args w, (callFunc 80 args).run Try.prog w = .ok (.enter 80 args) w := enters_of Try.func80 (by kernel_rfl) rfl
theorem sortsD : SortsD := by
  intro s sp na nv nr nd nc nt nl np nm bt xs S hL hn hdd hxn hnd hnn hbox hdep hbt hrow
  intro g w vals hS hU hsz hargs
  have a0 := hargs 0 _ rfl
  have a1 := hargs 1 _ rfl
  obtain ⟨v0, v1, rfl⟩ : ∃ v0 v1, vals = #[v0, v1] := by
    obtain ⟨l⟩ := vals
    match l, hsz with
    | [a, b], _ => exact ⟨a, b, rfl⟩
  have a0 : RV g w (.ms nm 1 0 xs.length) v0 := a0
  have a1 : RV g w (.fn 80 [.ptr bt 0]) v1 := a1
  cases a1 with | fn _ _ cb hcl hcr =>
  have c0 := hcr 0 _ rfl
  obtain ⟨pb, rfl⟩ : ∃ pb, cb = #[pb] := by
    obtain ⟨l⟩ := cb
    match l, hcl with
    | [a], _ => exact ⟨a, rfl⟩
  have c0 : RV g w (.ptr bt 0) pb := c0
  cases c0 with | ptr _ _ bb hUb hbb =>
  by_cases hx0 : xs = []
  · subst hx0
    obtain ⟨p, c, rfl⟩ : ∃ p c, v0 = .slice p 0 c := by
      cases a0 with
      | ms _ _ _ _ b p c _ _ _ _ _ _ => exact ⟨_, _, rfl⟩
      | msZero _ _ _ a _ => exact ⟨_, _, rfl⟩
    have hK := AnyF.slices_SortFunc_none (P := Try.prog) (ρ := sortLaid_ren) { sortLaid with } p c (.func (.func 80) #[] #[.pointer (some ⟨bb, 0, none⟩)]) w
    refine Calls.mono (show Calls Try.prog 79 _ w _ from hK) ?_
    rintro e w' ⟨rfl, rfl⟩
    exact ⟨.tup [], _, S, g, rfl, M.Ext.refl _ _, hS, hU, .tup [] #[] rfl (by simp), hrow, fun m k _ hk => hk⟩
  · obtain ⟨len, hlen⟩ : ∃ len, len = xs.length := ⟨_, rfl⟩
    rw [← hlen] at a0
    cases a0 with
    | msZero _ _ _ a hUa => exact absurd (List.eq_nil_of_length_eq_zero hlen.symm) hx0
    | ms _ _ _ _ b p c hUm hb hs hp hnc hcc =>
    subst hlen
    have hxl : xs.map lit ≠ [] := by simpa using hx0
    obtain ⟨b', vs, t, r1, r2, r3, r4, r5, r6, r7⟩ := row_cells hS hrow hxl
    rw [hb] at r1
    obtain rfl : b = b' := Option.some.inj r1
    have hp : p = (g.ρ nm).off := by rw [hp]; omega
    subst hp
    obtain ⟨bb', vs0, t0, x1, x2, x3, x4, x5⟩ := box_cells hS hbt
    rw [hbb] at x1
    obtain rfl : bb = bb' := Option.some.inj x1
    obtain ⟨u0, x6, x7⟩ := x5 0 _ rfl
    cases x7 with | ptr _ _ bsp hUsp hbsp =>
    obtain ⟨bsp', vs1, t1, y1, y2, y3, y4, y5⟩ := box_cells hS hbox
    rw [hbsp] at y1
    obtain rfl : bsp = bsp' := Option.some.inj y1
    obtain ⟨u5, y6, y7⟩ := y5 5 (.ms nd 1 0 (s.n + 1)) rfl
    have hdl := hL.dep
    have hdne : s.dep.map nlit ≠ [] := by
      intro e
      have := congrArg List.length e
      simp [hdl] at this
    obtain ⟨bd, vs2, t2, z1, z2, z3, z4, z5, z6, z7⟩ := row_cells hS hdep hdne
    cases y7 with | ms _ _ _ _ bd' pd cd hUd hbd hsd hpd hncd hccd =>
    rw [z1] at hbd
    obtain rfl : bd = bd' := Option.some.inj hbd
    have hpd : pd = (g.ρ nd).off := by rw [hpd]; omega
    subst hpd
    have isr : ∀ m k, S.get m = some k → (S.get m).isSome := fun m k h => by rw [h]; rfl
    have n1 : nm ≠ bt := by rintro rfl; rw [hrow] at hbt; cases hbt
    have n2 : nm ≠ sp := by rintro rfl; rw [hrow] at hbox; cases hbox
    have d1 : bb ≠ b := fun e => n1 (hS.inj nm bt b (isr _ _ hrow) (isr _ _ hbt) hb (by rw [hbb, e]))
    have d2 : bsp ≠ b := fun e => n2 (hS.inj nm sp b (isr _ _ hrow) (isr _ _ hbox) hb (by rw [hbsp, e]))
    have d3 : bd ≠ b := fun e => hnn (hS.inj nm nd b (isr _ _ hrow) (isr _ _ hdep) hb (by rw [z1, e]))
    obtain ⟨x0, hx0m⟩ : ∃ x0, x0 ∈ xs := List.exists_mem_of_ne_nil xs hx0
    haveI : Inhabited { x : Int // x ∈ xs } := ⟨⟨x0, hx0m⟩⟩
    obtain ⟨en, hen⟩ : ∃ en : { x : Int // x ∈ xs } → Value, en = fun x => .int .i64 x.1 := ⟨_, rfl⟩
    obtain ⟨df, hdf⟩ : ∃ df : { x : Int // x ∈ xs } → Nat, df = fun x => s.dep.getD x.1.natAbs 0 := ⟨_, rfl⟩
    obtain ⟨da, hda⟩ : ∃ da : Array { x : Int // x ∈ xs }, da = xs.attach.toArray := ⟨_, rfl⟩
    have hdas : da.size = xs.length := by rw [hda]; simp
    have hdag : ∀ j (hj : j < xs.length), (da[j]!).1 = xs[j] := fun j hj => by
      have : j < da.size := by omega
      rw [getElem!_pos da j this]
      simp [hda]
    have hH : Holds en w b (g.ρ nm).off da := fun j hj => by
      have hj' : j < xs.length := by omega
      refine ⟨?_, ?_⟩
      · rw [hen]
        show _ = some (Value.int .i64 (da[j]!).1)
        rw [hdag j hj']
        exact cell_of r2 (r7 j xs[j] (by simp [hj']))
      · unfold World.frozen?
        simp [r2]
    have hcmp : CmpLays1 Try.prog 80 #[.pointer (some ⟨bb, 0, none⟩)] en (fun x y => ((df y : Nat) : Int) - (df x : Nat)) b (g.ρ nm).off da.size w := by
      intro m os dk hdk x y
      obtain ⟨W, hW⟩ : ∃ W, W = sortWorld en w b (g.ρ nm).off m dk os := ⟨_, rfl⟩
      rw [← hW]
      have same : ∀ k, k < w.heap.size → k ≠ b → W.heap[k]? = w.heap[k]? := fun k h1 h2 => by rw [hW, sw_heap _ _ _ _ _ _ _ h1, if_neg h2]
      have hdv : ∀ z : { x : Int // x ∈ xs }, W.cell? ⟨bd, (g.ρ nd).off + z.1.natAbs, none⟩ = some (.int .i64 (df z)) := fun z => by
        rw [cell_heap (same bd z5 d3)]
        refine cell_of z2 (z7 _ _ ?_)
        have := hxn z.1 z.2
        rw [hdf]
        simp [nlit, lit, show z.1.natAbs < s.dep.length by omega]
      have hX := hxn x.1 x.2
      have hY := hxn y.1 y.2
      have hdx := hdd x.1 x.2
      have hdy := hdd y.1 y.2
      have hcl := closure80 x.1 y.1 (df x) (df y) (s.n + 1) cd x.1.natAbs y.1.natAbs bb bsp bd (g.ρ nd).off W (by omega) (by omega) rfl rfl (by omega) (by omega)
        (by rw [cell_heap (same bb x4 d1)]; exact cell_of x2 x6) (by rw [cell_heap (same bsp y4 d2)]; exact cell_of y2 y6) (hdv x) (hdv y) (by rw [hdf]; simp only; omega) (by rw [hdf]; simp only; omega)
      rw [hen]
      refine Calls.mono (show Calls Try.prog 80 #[.int .i64 x.1, .int .i64 y.1, .pointer (some ⟨bb, 0, none⟩)] W _ from hcl) ?_
      rintro e w' ⟨rfl, q, rfl⟩
      exact ⟨rfl, q, #[], (grow_empty _).symm⟩
    have hxlen : xs.length ≤ 4097 := by
      have := nodup_le_n 4097 (xs.map fun x => s.dep.getD x.natAbs 0 + 1) (by
        unfold List.Nodup at hnd ⊢
        rw [List.pairwise_map] at hnd ⊢
        exact hnd.imp fun a => by omega) (fun v hv => by
        obtain ⟨x, hx, rfl⟩ := List.mem_map.1 hv
        have := hdd x hx
        omega)
      simpa using this
    have hK := Any.slices_SortFunc sortLaid en (fun x => by rw [hen]; rfl) (fun x y => ((df y : Nat) : Int) - (df x : Nat)) (swo_desc df) 80 #[.pointer (some ⟨bb, 0, none⟩)] b (g.ρ nm).off c da w enters80 hcmp hH r5 (by omega)
    rw [hdas] at hK
    refine Calls.mono (show Calls Try.prog 79 _ w _ from hK) ?_
    rintro e w' ⟨rfl, d', n', os, hperm, hsorted, rfl⟩
    obtain ⟨hp1, _, hp3⟩ := hperm
    have hds : d'.size = xs.length := by rw [hp1, hdas]
    obtain ⟨ys, hys⟩ : ∃ ys, ys = d'.toList.map (·.1) := ⟨_, rfl⟩
    have hyl : ys.length = xs.length := by rw [hys]; simp [hds]
    have hyg : ∀ i (hi : i < ys.length), ys[i] = (d'[i]!).1 := fun i hi => by
      have : i < d'.size := by omega
      rw [getElem!_pos d' i this]
      simp [hys]
    have hyp : ys.Perm xs := by
      rw [← hds] at hp3
      have e1 : d'.extract 0 d'.size = d' := Array.extract_size
      have e2 : da.extract 0 d'.size = da := by rw [hp1]; exact Array.extract_size
      rw [e1, e2] at hp3
      have := hp3.map (fun x : { x : Int // x ∈ xs } => x.1)
      rw [← hys, hda] at this
      simpa using this
    have hyso : ys.Pairwise fun a b => s.dep.getD b.natAbs 0 ≤ s.dep.getD a.natAbs 0 := by
      rw [List.pairwise_iff_getElem]
      intro i j hi hj hij
      have h1 := hsorted i j (Nat.zero_le _) hij (by omega)
      rw [hyg i hi, hyg j hj]
      unfold ltOf at h1
      rw [hdf] at h1
      have h2 := of_decide_eq_false h1
      simp only at h2
      omega
    have hye : ys = sortD s.dep xs := sort_unique hnd hyp hyso
    rw [← hye]
    have hE : M.Ext g w g (sortWorld en w b (g.ρ nm).off n' d' os) := by
      refine ⟨fun _ h => h, fun _ _ => rfl, fun _ h => h, fun bF hbF => ?_, rfl, rfl, rfl, sw_size _ _ _ _ _ _ _⟩
      have h1 := hS.ltF bF hbF
      have h2 : bF ≠ b := fun e => (hS.notF nm b (isr _ _ hrow) hb).1 (e ▸ hbF)
      rw [sw_heap _ _ _ _ _ _ _ h1, if_neg h2]
    have hU0 : g.U nm := (hS.ok nm _ hrow).1
    have hRS : RS g (sortWorld en w b (g.ρ nm).off n' d' os) (hset S.get nm (some (.row 1 (ys.map lit)))) := by
      refine hS.put hE (fun n2 b2 hn2 hi2 hb2 => ?_) hU0 ?_ (fun b2 hb2 => ?_) (fun b2 hb2 => ?_)
      · have h1 := (hS.notF n2 b2 hi2 hb2).2
        have h2 : b2 ≠ b := fun e => hn2 (hS.inj n2 nm b hi2 (isr _ _ hrow) (by rw [hb2, e]) hb)
        rw [sw_heap _ _ _ _ _ _ _ h1, if_neg h2]
      · refine ⟨r6, by rw [List.length_map, hyl]; have := r4; simp at this; omega, fun i x hx => ?_, .inr ⟨b, putCells en (g.ρ nm).off d' vs, t, hb, ?_, ?_, fun i j x y hx hy => ?_⟩⟩
        · rw [List.getElem?_map] at hx
          obtain ⟨z, _, rfl⟩ := Option.map_eq_some_iff.1 hx
          rfl
        · rw [sw_heap _ _ _ _ _ _ _ r5, if_pos rfl, r2]
          rfl
        · unfold putCells
          simp
          omega
        · rw [List.getElem?_map] at hx
          obtain ⟨z, hz, rfl⟩ := Option.map_eq_some_iff.1 hx
          obtain ⟨hi, hz⟩ := List.getElem?_eq_some_iff.1 hz
          have hj : j = 0 := by
            have := (List.getElem?_eq_some_iff.1 hy).1
            have e : (lit z).cells.length = 1 := rfl
            omega
          subst hj
          have hy : y = lit z := by
            have e : (lit z).cells[0]? = some (lit z) := rfl
            rw [e] at hy
            exact (Option.some.inj hy).symm
          subst hy
          have hlt : (g.ρ nm).off + i < vs.size := by have := r4; simp at this; omega
          have e : (putCells en (g.ρ nm).off d' vs).getD ((g.ρ nm).off + i * 1 + 0) undef = .int .i64 z := by
            unfold putCells
            simp [hlt, show i < d'.size by omega]
            rw [hen, ← hz, hyg i hi, getElem!_pos d' i (by omega)]
          rw [e]
          exact .d (.int _ _)
      · rw [hb] at hb2
        obtain rfl : b = b2 := Option.some.inj hb2
        refine ⟨(hS.notF nm b (isr _ _ hrow) hb).1, Nat.lt_of_lt_of_le r5 (sw_size _ _ _ _ _ _ _), fun n2 hn2 hi2 hb2 => hn2 (hS.inj n2 nm b hi2 (isr _ _ hrow) hb2 hb)⟩
      · have h1 := hS.ltF b2 hb2
        exact ⟨Nat.lt_of_lt_of_le h1 (sw_size _ _ _ _ _ _ _), fun n2 hn2 hi2 hb3 => (hS.notF n2 b2 hi2 hb3).1 hb2⟩
    refine ⟨.tup [], _, S.set nm (some (.row 1 (ys.map lit))), g, rfl, hE, by rw [M.St.get_set]; exact hRS, hU, .tup [] #[] rfl (by simp), by rw [M.St.get_set]; simp [hset], fun m k hm hk => ?_⟩
    rw [M.St.get_set]
    simp only [hset, if_neg hm]
    exact hk
end Go.Proofs.Ytafeehlpmdligaa
