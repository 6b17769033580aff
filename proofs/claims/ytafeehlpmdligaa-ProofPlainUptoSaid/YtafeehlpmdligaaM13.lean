/- Regions whose order is open: every order comes to what the walk in the order of the text comes to. -/
import Derived.Test.YtafeehlpmdligaaM12
namespace Go.Proofs.Ytafeehlpmdligaa.M
open Go.RowKit
set_option linter.unusedVariables false
set_option linter.unusedSimpArgs false

theorem Eff.on_ne {ef : Eff} {H : Nat → Option Blk} {nm : Nat} (h : nm ∉ ef.touch) : ef.on H nm = H nm := by
  cases ef with
  | keep => rfl
  | put m k => simp [Eff.touch] at h; simp [Eff.on, hset, h]
  | move o m k => cases o <;> simp [Eff.touch] at h <;> simp [Eff.on, hset, h]
  | drop m => simp [Eff.touch] at h; simp [Eff.on, hset, h]
theorem Eff.on_eq {ef : Eff} {H H' : Nat → Option Blk} {nm : Nat} (h : nm ∈ ef.touch) : ef.on H nm = ef.on H' nm := by
  cases ef with
  | keep => simp [Eff.touch] at h
  | put m k => simp [Eff.touch] at h; subst h; simp [Eff.on, hset]
  | move o m k => cases o with
    | none => simp [Eff.touch] at h; subst h; simp [Eff.on, hset]
    | some o =>
      simp [Eff.touch] at h
      simp only [Eff.on, hset]
      rcases h with rfl | rfl
      · simp
      · simp
  | drop m => simp [Eff.touch] at h; subst h; simp [Eff.on, hset]
theorem TrStep.same {P : Program} {fz : List Nat} {ops : Array Oper} {b k : Nat} {o : Oper} {fr : Fr} {H H' : Nat → Option Blk} {v : V} {m : Met} (h : TrStep P fz ops b k o fr H v H' m) {nm : Nat} (hn : nm ∉ m.2) : H' nm = H nm := by
  cases h with
  | skip => rfl
  | call => rfl
  | fresh => simp only [List.mem_singleton] at hn; simp [hset, hn]
  | op v ef h hc hs => exact Eff.on_ne hn
theorem TrStep.kinds {P : Program} {fz : List Nat} {ops : Array Oper} {b k : Nat} {o : Oper} {fr : Fr} {H H' : Nat → Option Blk} {v : V} {m : Met} (h : TrStep P fz ops b k o fr H v H' m) : (∀ x, x ∈ m.2 → mayTouch o.op = true) ∧ (∀ x, x ∈ m.1 → mayRead o.op = true) := by
  cases h with
  | skip => simp
  | call f args r rs h hc =>
    refine ⟨by simp, fun x _ => ?_⟩
    unfold callOf at hc
    split at hc
    case h_2 => cases hc
    rename_i c hop
    split at hc
    case h_2 => cases hc
    rename_i fo hcal
    simp [hop, mayRead, hcal]
  | fresh f args sz ds rs h hc =>
    unfold callOf at hc
    split at hc
    case h_2 => cases hc
    rename_i c hop
    split at hc
    case h_2 => cases hc
    rename_i fo hcal
    exact ⟨fun x _ => by simp [hop, mayTouch, hcal], fun x _ => by simp [hop, mayRead, hcal]⟩
  | op v ef h hc hs =>
    refine ⟨fun x hx => stepF_touch hs (fun e => by rw [e] at hx; simp at hx), fun x hx => ?_⟩
    cases hf : fpOf o.op (lkE fr) with
    | none => simp [hf] at hx
    | some q => exact fpOf_read hf

theorem mem_unord {ops : Array Oper} {i j : Nat} {x y : Oper} (hij : i < j) (hx : ops[i]? = some x) (hy : ops[j]? = some y) (hk : ((mayTouch x.op && (mayTouch y.op || mayRead y.op)) || (mayRead x.op && mayTouch y.op)) = true) (hn : i ∉ (ancs ops).getD j []) : (i, j) ∈ unord ops := by
  have hj : j < ops.size := (Array.getElem?_eq_some_iff.1 hy).1
  unfold unord
  simp only [List.mem_flatMap, List.mem_range, List.mem_filterMap]
  refine ⟨j, hj, i, hij, ?_⟩
  simp only [hx, hy]
  rw [if_pos]
  rw [hk]
  simpa using hn

section
variable {P : Program} {n b : Nat} {fz : List Nat} {ops : Array Oper} {frs : Nat → Fr} {Hs : Nat → Nat → Option Blk} {vs : Nat → V} {mm : Nat → Met}
variable (hst : ∀ k o, ops[k]? = some o → dstOk n o.dst = true ∧ frs (k + 1) = fsetO (frs k) o.dst (vs k) ∧ TrStep P fz ops b k o (frs k) (Hs k) (vs k) (Hs (k + 1)) (mm k))
variable (hmet : metOk ops ((List.range ops.size).map mm)) (hslots : slotsOk ops = true) (hedges : edgesOk ops = true)
include hst

theorem met_order (hmet : metOk ops ((List.range ops.size).map mm)) {i k nm : Nat} {x y : Oper} (hne : i ≠ k) (hx : ops[i]? = some x) (hy : ops[k]? = some y) (hi : nm ∈ (mm i).2) (hk : nm ∈ (mm k).1 ∨ nm ∈ (mm k).2) :
    (i < k → i ∈ (ancs ops).getD k []) ∧ (k < i → k ∈ (ancs ops).getD i []) := by
  have his : i < ops.size := (Array.getElem?_eq_some_iff.1 hx).1
  have hks : k < ops.size := (Array.getElem?_eq_some_iff.1 hy).1
  have gi : ((List.range ops.size).map mm).getD i ([], []) = mm i := by simp [List.getD, his]
  have gk : ((List.range ops.size).map mm).getD k ([], []) = mm k := by simp [List.getD, hks]
  have ki := (hst i x hx).2.2.kinds
  have kk := (hst k y hy).2.2.kinds
  have hti := ki.1 nm hi
  constructor
  · intro hik
    rcases Classical.em (i ∈ (ancs ops).getD k []) with h | h
    · exact h
    · have := hmet _ (mem_unord hik hx hy (by
        rcases hk with hk | hk
        · simp [hti, kk.2 nm hk]
        · simp [hti, kk.1 nm hk]) h)
      simp only [gi, gk] at this
      rcases hk with hk | hk
      · exact absurd hk (this.1 nm hi).1
      · exact absurd hk (this.1 nm hi).2
  · intro hki
    rcases Classical.em (k ∈ (ancs ops).getD i []) with h | h
    · exact h
    · have := hmet _ (mem_unord hki hy hx (by
        rcases hk with hk | hk
        · simp [hti, kk.2 nm hk]
        · simp [hti, kk.1 nm hk]) h)
      simp only [gi, gk] at this
      rcases hk with hk | hk
      · exact absurd hi (this.2 nm hk)
      · exact absurd hi (this.1 nm hk).2

/-- No one writes a slot between two places: it stays. -/
theorem frs_same {t : Nat} : ∀ (d p q : Nat), p + d = q → q ≤ ops.size → (∀ i x, ops[i]? = some x → p ≤ i → i < q → x.dst ≠ some t) → frs q t = frs p t
  | 0, p, q, h, _, _ => by simp at h; rw [h]
  | d + 1, p, q, h, hq, hn => by
    have ih := frs_same d p (p + d) rfl (by omega) (fun i x hx h1 h2 => hn i x hx h1 (by omega))
    have ho : ops[p + d]? = some (ops[p + d]'(by omega)) := by simp [show p + d < ops.size by omega]
    obtain ⟨_, h2, _⟩ := hst (p + d) _ ho
    have hne := hn (p + d) _ ho (by omega) (by omega)
    rw [← ih, ← h, ← Nat.add_assoc, h2]
    cases hd : (ops[p + d]'(by omega)).dst with
    | none => rfl
    | some d' =>
      rw [hd] at hne
      simp only [fsetO, fset]
      rw [if_neg (fun e => hne (by rw [e]))]
theorem Hs_same {nm : Nat} : ∀ (d p q : Nat), p + d = q → q ≤ ops.size → (∀ i, p ≤ i → i < q → nm ∉ (mm i).2) → Hs q nm = Hs p nm
  | 0, p, q, h, _, _ => by simp at h; rw [h]
  | d + 1, p, q, h, hq, hn => by
    have ih := Hs_same d p (p + d) rfl (by omega) (fun i h1 h2 => hn i h1 (by omega))
    have ho : ops[p + d]? = some (ops[p + d]'(by omega)) := by simp [show p + d < ops.size by omega]
    obtain ⟨_, _, h3⟩ := hst (p + d) _ ho
    rw [← ih, ← h, ← Nat.add_assoc]
    exact h3.same (hn (p + d) (by omega) (by omega))

/-- The state when the operations of L are done. -/
structure Part (L : Nat → Prop) (fr : Fr) (H : Nat → Option Blk) : Prop where
  slot : ∀ t p, p ≤ ops.size → (∀ i x, ops[i]? = some x → x.dst = some t → (L i ↔ i < p)) → fr t = frs p t
  blk : ∀ nm p, p ≤ ops.size → (∀ i, i < ops.size → nm ∈ (mm i).2 → (L i ↔ i < p)) → H nm = Hs p nm
end

theorem filter_lt {p p' : Nat → Bool} {i : Nat} : ∀ {l : List Nat}, (∀ x, p' x = true → p x = true) → i ∈ l → p i = true → p' i = false → (l.filter p').length < (l.filter p).length
  | [], _, hi, _, _ => by simp at hi
  | x :: l, hpp, hi, h1, h2 => by
    have mono : ∀ l : List Nat, (l.filter p').length ≤ (l.filter p).length := by
      intro l
      induction l with
      | nil => simp
      | cons y l ih =>
        by_cases hy : p' y = true
        · simp [List.filter_cons, hy, hpp y hy, ih]
        · by_cases hy2 : p y = true
          · simp [List.filter_cons, hy, hy2]; omega
          · simp [List.filter_cons, hy, hy2, ih]
    rcases List.mem_cons.1 hi with rfl | hi
    · simp [List.filter_cons, h1, h2]
      have := mono l
      omega
    · have ih := filter_lt (l := l) hpp hi h1 h2
      by_cases hy : p' x = true
      · simp [List.filter_cons, hy, hpp x hy]; omega
      · by_cases hy2 : p x = true
        · simp [List.filter_cons, hy, hy2]; omega
        · simp [List.filter_cons, hy, hy2]; omega

theorem mem_ready {md : Region.Mode} {ops : Array Oper} {listed : Array Bool} {i : Nat} : i ∈ Region.ready md ops listed ↔ i < ops.size ∧ listed.getD i true = false ∧ ∀ o, ops[i]? = some o → ∀ e ∈ o.after.toList, Region.binds md e = true → listed.getD e.on false = true := by
  unfold Region.ready
  simp only [List.mem_filter, List.mem_range, Bool.and_eq_true, Bool.not_eq_true']
  constructor
  · rintro ⟨h1, h2, h3⟩
    refine ⟨h1, h2, fun o ho e he hb => ?_⟩
    have ho' : ops[i] = o := by simpa [h1] using ho
    simp only [h1, Array.getElem?_eq_getElem, Option.map_some, Option.getD_some] at h3
    rw [ho', Array.all_eq_true_iff_forall_mem] at h3
    have := h3 e (by simpa using he)
    simpa [hb] using this
  · rintro ⟨h1, h2, h3⟩
    refine ⟨h1, h2, ?_⟩
    simp only [h1, Array.getElem?_eq_getElem, Option.map_some, Option.getD_some]
    rw [Array.all_eq_true_iff_forall_mem]
    intro e he
    have := h3 ops[i] (by simp [h1]) e (by simpa using he)
    cases hb : Region.binds md e <;> simp_all

set_option maxHeartbeats 1000000 in
theorem drawn_sound {P : Program} {n b : Nat} {fz : List Nat} {ops : Array Oper} {frs : Nat → Fr} {Hs : Nat → Nat → Option Blk} {vs : Nat → V} {mm : Nat → Met}
    (hst : ∀ k o, ops[k]? = some o → dstOk n o.dst = true ∧ frs (k + 1) = fsetO (frs k) o.dst (vs k) ∧ TrStep P fz ops b k o (frs k) (Hs k) (vs k) (Hs (k + 1)) (mm k))
    (hmet : metOk ops ((List.range ops.size).map mm)) (hslots : slotsOk ops = true) (hedges : edgesOk ops = true) {Q : Exit → Act → World → Prop} {g0 : Gh} {w0 : World}
    (hfin : ∀ g w a, Ext g0 w0 g w → RS g w (Hs ops.size) → (∀ k, g.U k → k < b + ops.size) → RF n g w (frs ops.size) a → Q .normal a w) :
    ∀ (fuel : Nat) (listed : Array Bool) (fr : Fr) (H : Nat → Option Blk) (g : Gh) (w : World) (a : Act), listed.size = ops.size → Closed ops (fun i => listed.getD i false = true) → ((List.range ops.size).filter fun i => !listed.getD i false).length ≤ fuel →
      Part (ops := ops) (frs := frs) (Hs := Hs) (mm := mm) (fun i => listed.getD i false = true) fr H → Ext g0 w0 g w → RS g w H → (∀ k, g.U k → k < b ∨ ∃ i, i < ops.size ∧ listed.getD i false = true ∧ k = b + i) → RF n g w fr a → wpAny P .any ops Q fuel listed a w := by
  have gd : ∀ (listed : Array Bool) (i : Nat), listed.size = ops.size → i < ops.size → listed.getD i true = listed.getD i false := fun listed i hs hi => by simp [show i < listed.size by omega]
  -- at the end
  have atEnd : ∀ (listed : Array Bool) (fr : Fr) (H : Nat → Option Blk) (g : Gh) (w : World) (a : Act), listed.size = ops.size → (∀ i, i < ops.size → listed.getD i false = true) → Part (ops := ops) (frs := frs) (Hs := Hs) (mm := mm) (fun i => listed.getD i false = true) fr H → Ext g0 w0 g w → RS g w H → (∀ k, g.U k → k < b ∨ ∃ i, i < ops.size ∧ listed.getD i false = true ∧ k = b + i) → RF n g w fr a → Q .normal a w := by
    intro listed fr H g w a hsz hall hpart hE hS hU hr
    have hH : H = Hs ops.size := by
      funext nm
      exact hpart.blk nm ops.size (Nat.le_refl _) (fun i hi _ => ⟨fun _ => hi, fun _ => hall i hi⟩)
    have hf : fr = frs ops.size := by
      funext t
      exact hpart.slot t ops.size (Nat.le_refl _) (fun i x hx _ => ⟨fun _ => (Array.getElem?_eq_some_iff.1 hx).1, fun hi => hall i hi⟩)
    subst hH hf
    exact hfin g w a hE hS (fun k hk => by rcases hU k hk with h | ⟨i, h1, _, rfl⟩ <;> omega) hr
  have noReady : ∀ (listed : Array Bool), listed.size = ops.size → Region.ready .any ops listed = [] → ∀ i, i < ops.size → listed.getD i false = true := by
    intro listed hsz hnil i
    induction i using Nat.strongRecOn with
    | _ i ih =>
      intro hi
      rcases hb : listed.getD i false with _ | _
      · exfalso
        have : i ∈ Region.ready .any ops listed := by
          rw [mem_ready]
          refine ⟨hi, by rw [gd listed i hsz hi]; exact hb, fun o ho e he hbd => ?_⟩
          have := List.all_eq_true.1 hedges i (by simpa using hi)
          simp only [ho] at this
          have := List.all_eq_true.1 this e he
          simp [hbd] at this
          exact ih e.on this (by omega)
        rw [hnil] at this
        simp at this
      · rfl
  intro fuel
  induction fuel with
  | zero =>
    intro listed fr H g w a hsz hcl hcount hpart hE hS hU hr
    have hall : ∀ i, i < ops.size → listed.getD i false = true := by
      intro i hi
      rcases hb : listed.getD i false with _ | _
      · have : i ∈ (List.range ops.size).filter fun i => !listed.getD i false := by rw [List.mem_filter]; exact ⟨by simpa using hi, by simp only [hb]; rfl⟩
        rw [List.eq_nil_of_length_eq_zero (Nat.le_zero.1 hcount)] at this
        simp at this
      · rfl
    refine ⟨?_, atEnd listed fr H g w a hsz hall hpart hE hS hU hr⟩
    apply List.eq_nil_iff_forall_not_mem.2
    intro i hi
    rw [mem_ready] at hi
    have := hall i hi.1
    rw [← gd listed i hsz hi.1, hi.2.1] at this
    cases this
  | succ fuel ih =>
    intro listed fr H g w a hsz hcl hcount hpart hE hS hU hr
    refine ⟨fun hnil => atEnd listed fr H g w a hsz (noReady listed hsz hnil) hpart hE hS hU hr, fun k hk => ?_⟩
    rw [mem_ready] at hk
    obtain ⟨hks, hkl, hke⟩ := hk
    have hkl' : listed.getD k false = false := by rw [← gd listed k hsz hks]; exact hkl
    have ho : ops[k]? = some ops[k] := by simp [hks]
    generalize hok : ops[k] = o at ho
    obtain ⟨hdst, hfr, htr⟩ := hst k o ho
    have hke' := hke o ho
    have hanc : ∀ i ∈ (ancs ops).getD k [], listed.getD i false = true := anc_in hcl k k (Nat.le_refl _) o ho hke'
    have hdesc : ∀ i x, ops[i]? = some x → k ∈ (ancs ops).getD i [] → ¬ listed.getD i false = true := by
      intro i x hx hki hli
      have := anc_in hcl i i (Nat.le_refl _) x hx (fun e he hb => hcl i x hx hli e he hb) k hki
      simp only [hkl'] at this
      cases this
    -- slots that k writes or looks at
    have hslot : ∀ t, (o.dst = some t ∨ t ∈ o.looksAt ops) → ∀ i x, ops[i]? = some x → x.dst = some t → (listed.getD i false = true ↔ i < k) := by
      intro t ht i x hx hxd
      by_cases hik : i = k
      · subst hik
        simp only [hkl']
        constructor
        · intro h; cases h
        · intro h; omega
      · obtain ⟨h1, h2⟩ := slot_order hslots hik hx ho hxd ht
        constructor
        · intro hl
          rcases Nat.lt_or_ge i k with h | h
          · exact h
          · exact absurd hl (hdesc i x hx (h2 (by omega)))
        · intro h
          exact hanc i (h1 h)
    have hops : ∀ x ∈ o.op.operands, lkE fr x = lkE (frs k) x := by
      intro x hx
      cases x with
      | tmp t =>
        simp only [lkE]
        exact hpart.slot t k (by omega) (hslot t (.inr (by
          unfold Oper.looksAt
          refine List.mem_append_left _ (List.mem_filterMap.2 ⟨.tmp t, by simpa using hx, rfl⟩))))
      | _ => rfl
    have hguard : guardM ops fr o = guardM ops (frs k) o := by
      unfold guardM
      cases hg : o.guard with
      | none => rfl
      | some p =>
        obtain ⟨j, want⟩ := p
        simp only
        cases hd : (ops[j]?).bind (·.dst) with
        | none => rfl
        | some d =>
          simp only
          rw [hpart.slot d k (by omega) (hslot d (.inr (by
            unfold Oper.looksAt
            refine List.mem_append_right _ ?_
            simp [hg, hd])))]
    have hcall : callOf o fr = callOf o (frs k) := callOf_congr hops
    have hfp : fpOf o.op (lkE fr) = fpOf o.op (lkE (frs k)) := fpOf_congr hops
    -- the list with k
    have hlist : ∀ i, (listed.setIfInBounds k true).getD i false = true ↔ listed.getD i false = true ∨ i = k := by
      intro i
      by_cases hik : i = k
      · subst hik
        simp [show i < listed.size by omega]
      · simp only [Array.getD_eq_getD_getElem?, Array.getElem?_setIfInBounds]
        rw [if_neg (fun e => hik e.symm)]
        simp [hik]
    have hsz' : (listed.setIfInBounds k true).size = ops.size := by simpa using hsz
    have hcl' : Closed ops (fun i => (listed.setIfInBounds k true).getD i false = true) := by
      intro i x hx hi e he hb
      rw [hlist] at hi ⊢
      rcases hi with hi | rfl
      · exact .inl (hcl i x hx hi e he hb)
      · rw [ho] at hx
        injection hx with hx
        subst hx
        exact .inl (hke' e he hb)
    have hcount' : ((List.range ops.size).filter fun i => !(listed.setIfInBounds k true).getD i false).length ≤ fuel := by
      have := filter_lt (p := fun i => !listed.getD i false) (p' := fun i => !(listed.setIfInBounds k true).getD i false) (i := k) (l := List.range ops.size) (fun x hx => by
        have h1 : ¬ (listed.setIfInBounds k true).getD x false = true := by simpa using hx
        rw [hlist] at h1
        simp only [not_or] at h1
        simpa using h1.1) (by simpa using hks) (by simp only [hkl']; rfl) (by
        have : (listed.setIfInBounds k true).getD k false = true := (hlist k).2 (.inr rfl)
        simp only [this]; rfl)
      omega
    have hslot' : ∀ (t p : Nat), p ≤ ops.size → (∀ i x, ops[i]? = some x → x.dst = some t → ((listed.setIfInBounds k true).getD i false = true ↔ i < p)) → fsetO fr o.dst (vs k) t = frs p t := by
      intro t p hp hi
      by_cases hd : o.dst = some t
      · have hkp : k < p := (hi k o ho hd).1 ((hlist k).2 (.inr rfl))
        have hlast : frs p t = frs (k + 1) t := by
          refine frs_same hst (p - (k + 1)) (k + 1) p (by omega) hp fun i x hx h1 h2 hxd => ?_
          have hl := (hi i x hx hxd).2 h2
          rw [hlist] at hl
          rcases hl with hl | rfl
          · exact absurd ((hslot t (.inl hd) i x hx hxd).1 hl) (by omega)
          · omega
        rw [hlast, hfr, hd]
        simp [fsetO, fset]
      · have e1 : fsetO fr o.dst (vs k) t = fr t := by
          cases hdd : o.dst with
          | none => rfl
          | some d =>
            simp only [fsetO, fset]
            rw [if_neg (fun e => hd (by rw [hdd, e]))]
        rw [e1]
        refine hpart.slot t p hp fun i x hx hxd => ?_
        rw [← hi i x hx hxd, hlist]
        constructor
        · exact .inl
        · rintro (h | rfl)
          · exact h
          · rw [ho] at hx; injection hx with hx; subst hx; exact absurd hxd hd
    have hblkOrd : ∀ nm, (nm ∈ (mm k).1 ∨ nm ∈ (mm k).2) → ∀ i, i < ops.size → nm ∈ (mm i).2 → (listed.getD i false = true ↔ i < k) := by
      intro nm hnm i hi him
      by_cases hik : i = k
      · subst hik
        simp only [hkl']
        constructor
        · intro h; cases h
        · intro h; omega
      · have hx : ops[i]? = some ops[i] := by simp [hi]
        obtain ⟨h1, h2⟩ := met_order hst hmet hik hx ho him hnm
        constructor
        · intro hl
          rcases Nat.lt_or_ge i k with h | h
          · exact h
          · exact absurd hl (hdesc i _ hx (h2 (by omega)))
        · intro h
          exact hanc i (h1 h)
    have hblk' : ∀ (H' : Nat → Option Blk), (∀ nm, nm ∈ (mm k).2 → H' nm = Hs (k + 1) nm) → (∀ nm, nm ∉ (mm k).2 → H' nm = H nm) → ∀ (nm p : Nat), p ≤ ops.size → (∀ i, i < ops.size → nm ∈ (mm i).2 → ((listed.setIfInBounds k true).getD i false = true ↔ i < p)) → H' nm = Hs p nm := by
      intro H' ht hn nm p hp hi
      by_cases hm : nm ∈ (mm k).2
      · have hkp : k < p := (hi k hks hm).1 ((hlist k).2 (.inr rfl))
        rw [ht nm hm]
        refine (Hs_same hst (p - (k + 1)) (k + 1) p (by omega) hp fun i h1 h2 him => ?_).symm
        have hl := (hi i (by omega) him).2 h2
        rw [hlist] at hl
        rcases hl with hl | rfl
        · exact absurd ((hblkOrd nm (.inr hm) i (by omega) him).1 hl) (by omega)
        · omega
      · rw [hn nm hm]
        refine hpart.blk nm p hp fun i hi' him => ?_
        rw [← hi i hi' him, hlist]
        constructor
        · exact .inl
        · rintro (h | rfl)
          · exact h
          · exact absurd him hm
    have hU' : ∀ g' : Gh, (∀ q, g'.U q → g.U q ∨ q = b + k) → ∀ q, g'.U q → q < b ∨ ∃ i, i < ops.size ∧ (listed.setIfInBounds k true).getD i false = true ∧ q = b + i := by
      intro g' hg' q hq
      rcases hg' q hq with h | rfl
      · rcases hU q h with h | ⟨i, h1, h2, h3⟩
        · exact .inl h
        · exact .inr ⟨i, h1, (hlist i).2 (.inl h2), h3⟩
      · exact .inr ⟨k, hks, (hlist k).2 (.inr rfl), rfl⟩
    -- the operation
    unfold wpOp
    simp only [ho]
    have hdone : ∀ (v : V) (Hn : Nat → Option Blk) (mk : Met), vs k = v → Hs (k + 1) = Hn → mm k = mk → TrStep P fz ops b k o (frs k) (Hs k) v Hn mk →
        if Region.wanted o (yielded ops a.tmps) = true then o.wp P a w (wpAny P .any ops Q fuel (listed.setIfInBounds k true)) Q ∨ (o.asks P a w ∧ LetsOut Q) else wpAny P .any ops Q fuel (listed.setIfInBounds k true) (a.put o.dst undef) w := by
      intro v Hn mk hvk hHk hmk htr
      cases htr with
      | skip hg =>
        rw [← hguard] at hg
        have hw := guardM_wanted hg hr
        rw [if_neg (by rw [hw]; simp)]
        refine ih _ (fsetO fr o.dst .undef) H g w _ hsz' hcl' hcount' ⟨?_, ?_⟩ hE hS (hU' g fun q h => .inl h) (hr.putO hdst (.undef _))
        · rw [← hvk]; exact hslot'
        · exact hblk' H (fun nm hnm => by rw [hmk] at hnm; simp at hnm) (fun nm _ => rfl)
      | call f args r rs hg hc hp hrn hP =>
        rw [← hguard] at hg
        rw [← hcall] at hc
        have hw := guardM_wanted hg hr
        rw [if_pos hw]
        left
        unfold Oper.wp
        unfold callOf at hc
        split at hc
        case h_2 => cases hc
        rename_i c hop
        split at hc
        case h_2 => cases hc
        rename_i fo hcal
        split at hc
        case h_2 => cases hc
        rename_i f' cs hf
        injection hc with hc
        injection hc with h1 h2
        subst h1 h2
        have hfv := hr.eval fo
        rw [hf] at hfv
        generalize hve : a.eval fo = fv at hfv
        cases hfv with
        | fn _ _ ws hvl hvr =>
          have hrun : (execOp a.eval o).run P w = .ok (.enter f' (c.args.map a.eval ++ ws)) w := by
            unfold isPlain at hp
            split at hp
            case h_2 => cases hp
            rename_i fn hfn
            simp at hp
            obtain ⟨hp1, hp2⟩ := hp
            have hb : ¬ fn.body = none := by intro hbb; simp [hbb] at hp2
            simp [execOp, hop, resolve, hcal, hve, Deferred.ofValue, invoke, callFunc, hfn, hp1, hb]
          rw [hrun]
          simp only [Oper.upon_enter]
          refine (hP ⟨b + ops.size, [], H⟩ (fun m hm => hpart.blk m k (by omega) (hblkOrd m (.inl (by rw [hmk]; exact hm)))) g w (c.args.map a.eval ++ ws) hS (fun q hq => by rcases hU q hq with h | ⟨i, h1, _, rfl⟩ <;> (show _ < b + ops.size; omega)) ?_ ?_).mono ?_
          · simp [hvl]
          · intro j y hy
            have hcs : (c.args.map a.eval).size = (c.args.toList.map (lkE fr)).length := by simp
            rw [List.getElem?_append] at hy
            split at hy
            · rename_i hj
              simp only [List.getElem?_map, Option.map_eq_some_iff] at hy
              obtain ⟨x, hx, rfl⟩ := hy
              have hj' : j < c.args.size := by simpa using hj
              have hxx : c.args[j] = x := by simpa [hj'] using hx
              have : (c.args.map a.eval ++ ws).getD j undef = a.eval x := by
                simp [Array.getElem?_append, hj', hxx]
              rw [this]
              exact hr.eval x
            · rename_i hj
              have hj' : ¬ j < c.args.size := by simpa using hj
              have := hvr _ y hy
              have e : (c.args.map a.eval ++ ws).getD j undef = ws.getD (j - (c.args.toList.map (lkE fr)).length) undef := by
                simp [Array.getElem?_append, hj']
              rw [e]
              exact this
          · rintro e w' ⟨r', v', S', g', rfl, h1, h2, h3, h4, rfl, rfl⟩
            simp only
            -- back to the names that were there
            have h2' : RS g' w' H := h2
            have hE' : Ext g w (g.back g') w' := ⟨fun _ h => h, fun _ _ => rfl, h1.fz, h1.keep, h1.os, h1.tape, h1.output, h1.size⟩
            have hsome : ∀ q, (H q).isSome → g.U q := fun q hq => by
              obtain ⟨z, hz⟩ := Option.isSome_iff_exists.1 hq
              exact (hS.ok q z hz).1
            have hS'' : RS (g.back g') w' H := ⟨fun nm z hz => ⟨(hS.ok nm z hz).1, (h2'.ok nm z hz).2.back (hS.ok nm z hz).2 h1.same (hS.ok nm z hz).1⟩,
              fun q m bb hq hm hbq hbm => h2'.inj q m bb hq hm (by rw [h1.same q (hsome q hq)]; exact hbq) (by rw [h1.same m (hsome m hm)]; exact hbm),
              fun q bb hq hb => h2'.notF q bb hq (by rw [h1.same q (hsome q hq)]; exact hb), h2'.ltF⟩
            refine ih _ (fsetO fr o.dst r') H (g.back g') w' _ hsz' hcl' hcount' ⟨?_, ?_⟩ (hE.trans hE') hS'' (hU' _ fun q h => .inl h) ((hr.mono hE').putO hdst (h4.noRef rfl hrn))
            · rw [← hvk]; exact hslot'
            · exact hblk' H (fun nm hnm => by rw [hmk] at hnm; simp at hnm) (fun nm _ => rfl)
      | fresh f args sz ds rs hg hc hp hF =>
        rw [← hguard] at hg
        rw [← hcall] at hc
        have hw := guardM_wanted hg hr
        rw [if_pos hw]
        left
        unfold Oper.wp
        unfold callOf at hc
        split at hc
        case h_2 => cases hc
        rename_i c hop
        split at hc
        case h_2 => cases hc
        rename_i fo hcal
        split at hc
        case h_2 => cases hc
        rename_i f' cs hf
        injection hc with hc
        injection hc with h1 h2
        subst h1 h2
        have hfv := hr.eval fo
        rw [hf] at hfv
        generalize hve : a.eval fo = fv at hfv
        cases hfv with
        | fn _ _ ws hvl hvr =>
          have hrun : (execOp a.eval o).run P w = .ok (.enter f' (c.args.map a.eval ++ ws)) w := by
            unfold isPlain at hp
            split at hp
            case h_2 => cases hp
            rename_i fn hfn
            simp at hp
            obtain ⟨hp1, hp2⟩ := hp
            have hb : ¬ fn.body = none := by intro hbb; simp [hbb] at hp2
            simp [execOp, hop, resolve, hcal, hve, Deferred.ofValue, invoke, callFunc, hfn, hp1, hb]
          rw [hrun]
          simp only [Oper.upon_enter]
          have hnU : ¬ g.U (b + k) := by
            intro hq
            rcases hU _ hq with h | ⟨i, h1, h2, h3⟩
            · omega
            · have : i = k := by omega
              rw [this, hkl'] at h2
              cases h2
          refine (fresh_rename (S := ⟨b + ops.size, [], H⟩) (q := b + k) (hF ⟨b + ops.size, [], H⟩ (fun m hm => hpart.blk m k (by omega) (hblkOrd m (.inl (by rw [hmk]; exact hm))))) (vals := c.args.map a.eval ++ ws) hS (fun q hq => by rcases hU q hq with h | ⟨i, h1, _, rfl⟩ <;> (show _ < b + ops.size; omega)) hnU ?_ ?_).mono ?_
          · simp [hvl]
          · intro j y hy
            have hcs : (c.args.map a.eval).size = (c.args.toList.map (lkE fr)).length := by simp
            rw [List.getElem?_append] at hy
            split at hy
            · rename_i hj
              simp only [List.getElem?_map, Option.map_eq_some_iff] at hy
              obtain ⟨x, hx, rfl⟩ := hy
              have hj' : j < c.args.size := by simpa using hj
              have hxx : c.args[j] = x := by simpa [hj'] using hx
              have : (c.args.map a.eval ++ ws).getD j undef = a.eval x := by
                simp [Array.getElem?_append, hj', hxx]
              rw [this]
              exact hr.eval x
            · rename_i hj
              have hj' : ¬ j < c.args.size := by simpa using hj
              have := hvr _ y hy
              have e : (c.args.map a.eval ++ ws).getD j undef = ws.getD (j - (c.args.toList.map (lkE fr)).length) undef := by
                simp [Array.getElem?_append, hj']
              rw [e]
              exact this
          · rintro e w' ⟨v', g', rfl, h1, h2, h3, h4⟩
            simp only
            have h2' : RS g' w' (hset H (b + k) (some (.row sz (ds.map V.d)))) := h2
            refine ih _ (fsetO fr o.dst (.ms (b + k) sz 0 ds.length)) _ g' w' _ hsz' hcl' hcount' ⟨?_, ?_⟩ (hE.trans h1) h2' (hU' _ h3) ((hr.mono h1).putO hdst h4)
            · rw [← hvk]; exact hslot'
            · refine hblk' _ (fun nm hnm => ?_) (fun nm hnm => ?_)
              · rw [hmk] at hnm
                simp only [List.mem_singleton] at hnm
                rw [hHk, hnm]
                simp [hset]
              · rw [hmk] at hnm
                simp only [List.mem_singleton] at hnm
                simp [hset, hnm]
      | op v ef hg hc hs =>
        rw [← hguard] at hg
        have hw := guardM_wanted hg hr
        rw [if_pos hw]
        left
        unfold Oper.wp
        have hfpm : ∀ nm, fpOf o.op (lkE (frs k)) = some nm → H nm = Hs k nm := fun nm hnm =>
          hpart.blk nm k (by omega) (hblkOrd nm (.inl (by rw [hmk, hnm]; simp)))
        have hs' : stepF P fz o (lkE fr) (blkOf H (fpOf o.op (lkE fr))) (b + k) = some (v, ef) := by
          rw [hfp, stepF_congr hops]
          have : blkOf H (fpOf o.op (lkE (frs k))) = blkOf (Hs k) (fpOf o.op (lkE (frs k))) := by
            cases hq : fpOf o.op (lkE (frs k)) with
            | none => rfl
            | some q => simp only [blkOf, Option.bind_some]; exact hfpm q hq
          rw [this]
          exact hs
        have hnU : ¬ g.U (b + k) := by
          intro h
          rcases hU _ h with h | ⟨i, _, h2, h3⟩
          · omega
          · have : i = k := by omega
            subst this
            rw [hkl'] at h2
            cases h2
        obtain ⟨w', g', hrun, h1, h2, h3⟩ := stepF_sound (P := P) (fun x => hr.eval x) o hs' hS hnU
        have hpart' : Part (ops := ops) (frs := frs) (Hs := Hs) (mm := mm) (fun i => (listed.setIfInBounds k true).getD i false = true) (fsetO fr o.dst v) (ef.on H) := by
          refine ⟨by rw [← hvk]; exact hslot', hblk' _ (fun nm hnm => ?_) (fun nm hnm => ?_)⟩
          · rw [hmk] at hnm
            rw [hHk]
            exact Eff.on_eq hnm
          · rw [hmk] at hnm
            exact Eff.on_ne hnm
        rcases hrun with ⟨v', hrun, hv'⟩ | ⟨hrun, hv⟩
        · rw [hrun]
          simp only [Oper.upon_value]
          exact ih _ _ _ g' w' _ hsz' hcl' hcount' hpart' (hE.trans h1) h2 (hU' g' h3) ((hr.mono h1).putO hdst hv')
        · rw [hrun]
          simp only [Oper.upon_skip]
          exact ih _ _ _ g' w' _ hsz' hcl' hcount' hpart' (hE.trans h1) h2 (hU' g' h3) ((hr.mono h1).putO hdst (by rw [hv]; exact .undef _))
    exact hdone _ _ _ rfl rfl rfl htr

theorem WpM.draw {P : Program} {n : Nat} {Q : Exit → Fr → St → Prop} {fr : Fr} {S : St} {id : Nat} {ops : Array Oper} (hm : P.follows .mixedOrders = true) (hslots : slotsOk ops = true) (hedges : edgesOk ops = true) {L : List (Nat × Nat)} (hL : unord ops = L) {fz : List Nat}
    (h : wpD P n fz ops L S.next ops.toList (Q .normal) fr S []) : WpM P n (.region id ops true) Q fr S := by
  intro g w a hi
  obtain ⟨frs, Hs, vs, mm, S', e1, e2, e3, e4, e5, e6, e7⟩ := wpD_tr ops.toList fr S [] h
  simp only [List.nil_append, Array.length_toList, List.length_nil, Nat.zero_add] at e3 e4 e5 e6 e7
  have hst : ∀ k o, ops[k]? = some o → dstOk n o.dst = true ∧ frs (k + 1) = fsetO (frs k) o.dst (vs k) ∧ TrStep P fz ops S.next k o (frs k) (Hs k) (vs k) (Hs (k + 1)) (mm k) := fun k o ho => e3 k o (by simpa using ho)
  have hE : Ext g w g { w with drawn := w.drawn + 1 } := ⟨fun _ h => h, fun _ _ => rfl, fun _ h => h, fun _ _ => rfl, rfl, rfl, rfl, Nat.le_refl _⟩
  have hi' : Inv n g { w with drawn := w.drawn + 1 } fr S a := ⟨hi.rs.ext hE (fun _ _ _ _ => rfl) (fun b hb => ⟨hi.rs.ltF b hb, fun q hq hbq => (hi.rs.notF q b hq hbq).1 hb⟩), hi.lt, hi.rf.mono hE⟩
  have hrep : ∀ i, (Array.replicate ops.size false).getD i false = false := fun i => by
    simp only [Array.getD_eq_getD_getElem?, Array.getElem?_replicate]
    split <;> rfl
  refine wp_region_any hm (drawn_sound (P := P) (n := n) (b := S.next) hst (metL_ok hL e4) hslots hedges ?_ ops.size _ fr S.get g _ a (by simp) ?_ ?_ ⟨?_, ?_⟩ hE hi'.rs (fun k hk => .inl (hi.lt k hk)) hi'.rf)
  · intro g' w' a' hE' hS' hU' hr'
    exact ⟨frs ops.size, S', g', hE', ⟨by rw [e6]; exact hS', fun k hk => by rw [e7]; exact hU' k hk, hr'⟩, e5⟩
  · intro k o ho hk e he hb
    simp only [hrep] at hk
    cases hk
  · refine Nat.le_trans (List.length_filter_le _ _) (by simp)
  · intro t p hp hall
    rw [← e1]
    refine (frs_same hst p 0 p (by omega) hp fun i x hx h1 h2 hd => ?_).symm
    have := (hall i x hx hd).2 h2
    simp only [hrep] at this
    cases this
  · intro nm p hp hall
    rw [← e2]
    refine (Hs_same hst p 0 p (by omega) hp fun i h1 h2 hm => ?_).symm
    have := (hall i (by omega) hm).2 h2
    simp only [hrep] at this
    cases this
end Go.Proofs.Ytafeehlpmdligaa.M
