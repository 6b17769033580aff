/- Regions whose order is open: one walk in the order of the text, where what is not ordered does not meet. -/
import Derived.Test.YtafeehlpmdligaaM11
namespace Go.Proofs.Ytafeehlpmdligaa.M
open Go.RowKit
set_option linter.unusedVariables false
set_option linter.unusedSimpArgs false

/-- What stands ahead of each operation by the edges that bind. -/
def ancStep (acc : List (List Nat)) (o : Oper) : List (List Nat) :=
  acc ++ [o.after.toList.flatMap fun e => if Region.binds .any e && decide (e.on < acc.length) then e.on :: acc.getD e.on [] else []]
def ancs (ops : Array Oper) : List (List Nat) := ops.toList.foldl ancStep []
def mayTouch : Op → Bool
  | .store .. | .mapUpdate .. | .alloc _ | .box .. | .buildSlice .. | .makeMap .. | .makeSlice .. => true
  | .call c => match c.callee with
    | .builtin .append | .builtin .delete | .value _ => true
    | _ => false
  | _ => false
def mayRead : Op → Bool
  | .store .. | .mapUpdate .. | .load .. | .lookup .. => true
  | .call c => match c.callee with
    | .value _ => true
    | .builtin .append | .builtin .delete => true
    | _ => false
  | _ => false
/-- Pairs that nothing orders and that may meet in memory. -/
def unord (ops : Array Oper) : List (Nat × Nat) :=
  let an := ancs ops
  (List.range ops.size).flatMap fun j => (List.range j).filterMap fun i =>
    match ops[i]?, ops[j]? with
    | some x, some y => if ((mayTouch x.op && (mayTouch y.op || mayRead y.op)) || (mayRead x.op && mayTouch y.op)) && !(an.getD j []).contains i then some (i, j) else none
    | _, _ => none
/-- The slots keep to the order of the text. -/
def slotsOk (ops : Array Oper) : Bool :=
  let an := ancs ops
  (List.range ops.size).all fun j => (List.range j).all fun i =>
    match ops[i]?, ops[j]? with
    | some x, some y => Oper.apart ops x y || (an.getD j []).contains i
    | _, _ => true
def edgesOk (ops : Array Oper) : Bool := (List.range ops.size).all fun j => match ops[j]? with
  | some o => o.after.toList.all fun e => !Region.binds .any e || decide (e.on < j)
  | none => true

def Eff.touch : Eff → List Nat
  | .keep => []
  | .put nm _ => [nm]
  | .move none nm _ => [nm]
  | .move (some o) nm _ => [o, nm]
  | .drop nm => [nm]

/-- What an operation has met: read, written. -/
abbrev Met := List Nat × List Nat
def Met.apart (a b : Met) : Prop := (∀ x, x ∈ a.2 → x ∉ b.1 ∧ x ∉ b.2) ∧ (∀ x, x ∈ a.1 → x ∉ b.2)
def metOk (ops : Array Oper) (ms : List Met) : Prop := ∀ p ∈ unord ops, Met.apart (ms.getD p.1 ([], [])) (ms.getD p.2 ([], []))

/-- The same, over a list of pairs that is written out. -/
def metL : List (Nat × Nat) → List Met → Prop
  | [], _ => True
  | p :: l, ms => Met.apart (ms.getD p.1 ([], [])) (ms.getD p.2 ([], [])) ∧ metL l ms
theorem metL_ok {ops : Array Oper} {L : List (Nat × Nat)} {ms : List Met} (hL : unord ops = L) (h : metL L ms) : metOk ops ms := by
  unfold metOk
  rw [hL]
  clear hL
  induction L with
  | nil => simp
  | cons p L ih =>
    intro q hq
    rcases List.mem_cons.1 hq with rfl | hq
    · exact h.1
    · exact ih h.2 q hq

/-- A call that only reads the blocks rs, which are as in H. -/
def PureOn (P : Program) (f : FuncId) (args : List V) (r : V) (rs : List Nat) (H : Nat → Option Blk) : Prop := ∀ S : St, (∀ m ∈ rs, S.get m = H m) → CallM P f args S fun r' S' => r' = r ∧ S' = S
theorem PureC.on {P : Program} {f : FuncId} {args : List V} {r : V} (h : PureC P f args r) (H : Nat → Option Blk) : PureOn P f args r [] H := fun S _ => h S

/-- A call that gives a new row of pure data. -/
def FreshOn (P : Program) (f : FuncId) (args : List V) (sz : Nat) (ds : List D) (rs : List Nat) (H : Nat → Option Blk) : Prop := ∀ S : St, (∀ m ∈ rs, S.get m = H m) → CallM P f args S fun r' S' => ∃ nm, S.next ≤ nm ∧ r' = .ms nm sz 0 ds.length ∧ S'.get nm = some (.row sz (ds.map V.d)) ∧ ∀ m k, m < S.next → S.get m = some k → S'.get m = some k

noncomputable def wpD (P : Program) (n : Nat) (fz : List Nat) (ops : Array Oper) (L : List (Nat × Nat)) (b : Nat) : List Oper → (Fr → St → Prop) → Fr → St → List Met → Prop
  | [], K, fr, S, ms => metL L ms ∧ K fr { S with next := b + ms.length }
  | o :: rest, K, fr, S, ms => dstOk n o.dst = true ∧ match guardM ops fr o with
    | none => False
    | some false => wpD P n fz ops L b rest K (fsetO fr o.dst .undef) S (ms ++ [([], [])])
    | some true => match callOf o fr with
      | some (f, args) => isPlain P f = true ∧ ((∃ r rs, r.noRef = true ∧ PureOn P f args r rs S.get ∧ wpD P n fz ops L b rest K (fsetO fr o.dst r) S (ms ++ [(rs, [])])) ∨
          ∃ sz ds rs, FreshOn P f args sz ds rs S.get ∧ wpD P n fz ops L b rest K (fsetO fr o.dst (.ms (b + ms.length) sz 0 ds.length)) (S.set (b + ms.length) (some (.row sz (ds.map V.d)))) (ms ++ [(rs, [b + ms.length])]))
      | none => match stepF P fz o (lkE fr) (blkOf S.get (fpOf o.op (lkE fr))) (b + ms.length) with
        | some (v, ef) => wpD P n fz ops L b rest K (fsetO fr o.dst v) (ef.st S) (ms ++ [((fpOf o.op (lkE fr)).toList, ef.touch)])
        | none => False

/-- One operation of the walk in the order of the text. -/
inductive TrStep (P : Program) (fz : List Nat) (ops : Array Oper) (b k : Nat) (o : Oper) (fr : Fr) (H : Nat → Option Blk) : V → (Nat → Option Blk) → Met → Prop
  | skip (h : guardM ops fr o = some false) : TrStep P fz ops b k o fr H .undef H ([], [])
  | call (f : FuncId) (args : List V) (r : V) (rs : List Nat) (h : guardM ops fr o = some true) (hc : callOf o fr = some (f, args)) (hp : isPlain P f = true) (hr : r.noRef = true) (hP : PureOn P f args r rs H) : TrStep P fz ops b k o fr H r H (rs, [])
  | fresh (f : FuncId) (args : List V) (sz : Nat) (ds : List D) (rs : List Nat) (h : guardM ops fr o = some true) (hc : callOf o fr = some (f, args)) (hp : isPlain P f = true) (hF : FreshOn P f args sz ds rs H) : TrStep P fz ops b k o fr H (.ms (b + k) sz 0 ds.length) (hset H (b + k) (some (.row sz (ds.map V.d)))) (rs, [b + k])
  | op (v : V) (ef : Eff) (h : guardM ops fr o = some true) (hc : callOf o fr = none) (hs : stepF P fz o (lkE fr) (blkOf H (fpOf o.op (lkE fr))) (b + k) = some (v, ef)) : TrStep P fz ops b k o fr H v (ef.on H) ((fpOf o.op (lkE fr)).toList, ef.touch)

theorem wpD_tr {P : Program} {n : Nat} {fz : List Nat} {ops : Array Oper} {L : List (Nat × Nat)} {b : Nat} {K : Fr → St → Prop} : ∀ (l : List Oper) (fr : Fr) (S : St) (ms : List Met), wpD P n fz ops L b l K fr S ms →
    ∃ (frs : Nat → Fr) (Hs : Nat → Nat → Option Blk) (vs : Nat → V) (mm : Nat → Met) (S' : St), frs 0 = fr ∧ Hs 0 = S.get ∧ (∀ k o, l[k]? = some o → dstOk n o.dst = true ∧ frs (k + 1) = fsetO (frs k) o.dst (vs k) ∧ TrStep P fz ops b (ms.length + k) o (frs k) (Hs k) (vs k) (Hs (k + 1)) (mm k)) ∧
      metL L (ms ++ (List.range l.length).map mm) ∧ K (frs l.length) S' ∧ S'.get = Hs l.length ∧ S'.next = b + (ms.length + l.length)
  | [], fr, S, ms, h => ⟨fun _ => fr, fun _ => S.get, fun _ => .undef, fun _ => ([], []), { S with next := b + ms.length }, rfl, rfl, by simp, by simpa using h.1, h.2, rfl, rfl⟩
  | o :: l, fr, S, ms, h => by
    simp only [wpD] at h
    obtain ⟨hd, h⟩ := h
    -- the head and the rest
    have glue : ∀ (v : V) (S1 : St) (mt : Met), TrStep P fz ops b ms.length o fr S.get v S1.get mt → wpD P n fz ops L b l K (fsetO fr o.dst v) S1 (ms ++ [mt]) →
        ∃ (frs : Nat → Fr) (Hs : Nat → Nat → Option Blk) (vs : Nat → V) (mm : Nat → Met) (S' : St), frs 0 = fr ∧ Hs 0 = S.get ∧ (∀ k o', (o :: l)[k]? = some o' → dstOk n o'.dst = true ∧ frs (k + 1) = fsetO (frs k) o'.dst (vs k) ∧ TrStep P fz ops b (ms.length + k) o' (frs k) (Hs k) (vs k) (Hs (k + 1)) (mm k)) ∧
          metL L (ms ++ (List.range (o :: l).length).map mm) ∧ K (frs (o :: l).length) S' ∧ S'.get = Hs (o :: l).length ∧ S'.next = b + (ms.length + (o :: l).length) := by
      intro v S1 mt hst hw
      obtain ⟨frs, Hs, vs, mm, S', e1, e2, e3, e4, e5, e6, e7⟩ := wpD_tr l _ S1 _ hw
      refine ⟨fun k => match k with | 0 => fr | k + 1 => frs k, fun k => match k with | 0 => S.get | k + 1 => Hs k, fun k => match k with | 0 => v | k + 1 => vs k, fun k => match k with | 0 => mt | k + 1 => mm k, S', rfl, rfl, ?_, ?_, e5, e6, ?_⟩
      · intro k o' ho'
        cases k with
        | zero =>
          simp at ho'
          subst ho'
          refine ⟨hd, e1, ?_⟩
          simp only [Nat.add_zero, e2]
          exact hst
        | succ k =>
          have := e3 k o' (by simpa using ho')
          simp only [List.length_append, List.length_singleton] at this
          refine ⟨this.1, this.2.1, ?_⟩
          rw [show ms.length + (k + 1) = ms.length + 1 + k by omega]
          exact this.2.2
      · simp only [List.length_cons, List.range_succ_eq_map, List.map_cons, List.map_map]
        simpa [Function.comp_def] using e4
      · simp at e7 ⊢
        omega
    split at h
    · exact h.elim
    · rename_i hg
      exact glue .undef S ([], []) (.skip hg) h
    · rename_i hg
      split at h
      · rename_i f args hc
        obtain ⟨hp, ⟨r, rs, hr, hP, h⟩ | ⟨sz, ds, rs, hF, h⟩⟩ := h
        · exact glue r S (rs, []) (.call f args r rs hg hc hp hr hP) h
        · exact glue _ (S.set (b + ms.length) (some (.row sz (ds.map V.d)))) _ (by rw [St.get_set]; exact .fresh f args sz ds rs hg hc hp hF) h
      · rename_i hc
        split at h
        · rename_i v ef hs
          exact glue v (ef.st S) _ (by rw [Eff.st_get]; exact .op v ef hg hc hs) h
        · exact h.elim

/-! What an operation looks at decides what it does. -/
theorem lk_args {lk lk' : Operand → V} {xs : Array Operand} (h : ∀ x ∈ xs, lk x = lk' x) : xs.toList.map lk = xs.toList.map lk' := List.map_congr_left fun x hx => h x (by simpa using hx)
theorem lk_parts {lk lk' : Operand → V} {ps : Array (Nat × Operand)} (h : ∀ x ∈ (ps.toList.map (·.2)).toArray, lk x = lk' x) : (ps.toList.map fun p => (p.1, lk p.2)) = ps.toList.map fun p => (p.1, lk' p.2) :=
  List.map_congr_left fun p hp => by rw [h p.2 (by simpa using ⟨p.1, by simpa using hp⟩)]
theorem lk_opt {lk lk' : Operand → V} {x : Option Operand} (h : ∀ y ∈ x.toArray, lk y = lk' y) : x.map lk = x.map lk' := by
  cases x with
  | none => rfl
  | some x => simp [h x (by simp)]

theorem fpOf_congr {op : Op} {lk lk' : Operand → V} (h : ∀ x ∈ op.operands, lk x = lk' x) : fpOf op lk = fpOf op lk' := by
  cases op <;> simp only [Op.operands] at h <;> simp only [fpOf]
  case load t a => rw [h a (by simp)]
  case store t a x => rw [h a (by simp)]
  case lookup t m k ok => rw [h m (by simp)]
  case mapUpdate t m k v => rw [h m (by simp)]
  case call c =>
    have key : ((c.args.toList.head?).bind fun x => refOf (lk x)) = ((c.args.toList.head?).bind fun x => refOf (lk' x)) := by
      cases ha : c.args.toList with
      | nil => rfl
      | cons x xs =>
        have : x ∈ c.args := by rw [← Array.mem_toList_iff, ha]; simp
        simp [h x (by simp [Call.operands, this])]
    split <;> first | rfl | exact key

theorem stepB_congr {P : Program} {op : Op} {lk lk' : Operand → V} (h : ∀ x ∈ op.operands, lk x = lk' x) (blk : Option Blk) (nm : Nat) : stepB P op lk blk nm = stepB P op lk' blk nm := by
  cases op <;> simp only [Op.operands] at h
  case move x => simp [stepB, h x (by simp)]
  case assign x => simp [stepB, h x (by simp)]
  case pick c a b => simp [stepB, h c (by simp), h a (by simp), h b (by simp)]
  case nilCheck x => simp [stepB, h x (by simp)]
  case binOp op t x y yt => simp [stepB, h x (by simp), h y (by simp)]
  case unOp op t x => simp [stepB, h x (by simp)]
  case convert s t x => simp [stepB, h x (by simp)]
  case extract x i => simp [stepB, h x (by simp)]
  case fieldAddr s x f => simp [stepB, h x (by simp)]
  case indexAddr t x i => simp [stepB, h x (by simp), h i (by simp)]
  case index t x i => simp [stepB, h x (by simp), h i (by simp)]
  case slice t x lo hi mx =>
    simp only [stepB]
    rw [h x (by simp), lk_opt (fun y hy => h y (by simp at hy ⊢; simp [hy])), lk_opt (fun y hy => h y (by simp at hy ⊢; simp [hy])), lk_opt (x := mx) (fun y hy => h y (by simp at hy ⊢; simp [hy]))]
  case build t ps => simp only [stepB]; rw [lk_parts h]
  case buildSlice t len ps => simp only [stepB]; rw [lk_parts h]
  case makeFunc fn first caps =>
    cases fn <;> simp only [stepB]
    rw [lk_args (fun x hx => h x (by simp [hx]))]
  case load t a => simp [stepB, h a (by simp)]
  case store t a x => simp [stepB, h a (by simp), h x (by simp)]
  case box t x => simp [stepB, h x (by simp)]
  case lookup t m k ok => simp [stepB, h m (by simp), h k (by simp)]
  case mapUpdate t m k v => simp [stepB, h m (by simp), h k (by simp), h v (by simp)]
  case makeSlice t l c => simp [stepB, h l (by simp), h c (by simp)]
  case makeMap t r => cases r <;> rfl
  case call c =>
    simp only [stepB]
    have : c.args.toList.map lk = c.args.toList.map lk' := lk_args fun x hx => h x (by simp [Call.operands, hx])
    rw [this]
  all_goals rfl

theorem stepF_congr {P : Program} {fz : List Nat} {o : Oper} {lk lk' : Operand → V} (h : ∀ x ∈ o.op.operands, lk x = lk' x) (blk : Option Blk) (nm : Nat) : stepF P fz o lk blk nm = stepF P fz o lk' blk nm := by
  have e : ownStep P fz o lk nm = ownStep P fz o lk' nm := by
    unfold ownStep
    cases hop : o.op <;> try rfl
    rename_i t len ps
    cases o.dst with
    | none => rfl
    | some d =>
      simp only
      rw [lk_parts (by rw [hop] at h; exact h)]
  unfold stepF
  rw [e]
  unfold stepF0
  rw [stepB_congr h]

theorem callOf_congr {o : Oper} {fr fr' : Fr} (h : ∀ x ∈ o.op.operands, lkE fr x = lkE fr' x) : callOf o fr = callOf o fr' := by
  unfold callOf
  cases hop : o.op <;> simp only
  rename_i c
  rw [hop] at h
  simp only [Op.operands] at h
  cases hc : c.callee <;> simp only
  rename_i f
  have h1 : lkE fr f = lkE fr' f := h f (by simp [Call.operands, hc])
  have h2 : c.args.toList.map (lkE fr) = c.args.toList.map (lkE fr') := lk_args fun x hx => h x (by simp [Call.operands, hx])
  rw [h1, h2]

theorem anc_fold : ∀ (l : List Oper) (acc : List (List Nat)), (∀ k, k < acc.length → (l.foldl ancStep acc).getD k [] = acc.getD k []) ∧
    ∀ k o, l[k]? = some o → (l.foldl ancStep acc).getD (acc.length + k) [] = o.after.toList.flatMap fun e => if Region.binds .any e && decide (e.on < acc.length + k) then e.on :: (l.foldl ancStep acc).getD e.on [] else []
  | [], acc => ⟨fun k hk => rfl, by simp⟩
  | o :: l, acc => by
    obtain ⟨h1, h2⟩ := anc_fold l (ancStep acc o)
    have hl : (ancStep acc o).length = acc.length + 1 := by simp [ancStep]
    have h1' : ∀ k, k < acc.length → (l.foldl ancStep (ancStep acc o)).getD k [] = acc.getD k [] := fun k hk => by
      rw [h1 k (by omega)]
      simp [ancStep, List.getD, List.getElem?_append_left hk]
    refine ⟨h1', fun k o' ho' => ?_⟩
    simp only [List.foldl_cons]
    cases k with
    | zero =>
      simp at ho'
      subst ho'
      rw [Nat.add_zero, h1 _ (by omega)]
      have : (ancStep acc o).getD acc.length [] = o.after.toList.flatMap fun e => if Region.binds .any e && decide (e.on < acc.length) then e.on :: acc.getD e.on [] else [] := by
        simp [ancStep, List.getD]
      rw [this]
      congr 1
      funext e
      by_cases he : e.on < acc.length
      · simp only [he]
        rw [h1' _ he]
      · simp [he]
    | succ k =>
      have := h2 k o' (by simpa using ho')
      rw [hl] at this
      rw [show acc.length + (k + 1) = acc.length + 1 + k by omega]
      exact this
theorem ancs_at {ops : Array Oper} {k : Nat} {o : Oper} (h : ops[k]? = some o) : (ancs ops).getD k [] = o.after.toList.flatMap fun e => if Region.binds .any e && decide (e.on < k) then e.on :: (ancs ops).getD e.on [] else [] := by
  have := (anc_fold ops.toList []).2 k o (by simpa using h)
  simpa [ancs] using this

/-- A set of operations that holds with each one what it waits for. -/
def Closed (ops : Array Oper) (L : Nat → Prop) : Prop := ∀ k o, ops[k]? = some o → L k → ∀ e ∈ o.after.toList, Region.binds .any e = true → L e.on
theorem anc_in {ops : Array Oper} {L : Nat → Prop} (hc : Closed ops L) : ∀ (m k : Nat), k ≤ m → ∀ o, ops[k]? = some o → (∀ e ∈ o.after.toList, Region.binds .any e = true → L e.on) → ∀ i ∈ (ancs ops).getD k [], L i := by
  intro m
  induction m with
  | zero =>
    intro k hk o ho he i hi
    rw [ancs_at ho, List.mem_flatMap] at hi
    obtain ⟨e, hm, hi⟩ := hi
    split at hi
    · rename_i hc'
      simp at hc'
      omega
    · simp at hi
  | succ m ih =>
    intro k hk o ho he i hi
    rw [ancs_at ho, List.mem_flatMap] at hi
    obtain ⟨e, hm, hi⟩ := hi
    split at hi
    · rename_i hc'
      simp at hc'
      have hL := he e hm hc'.1
      rcases List.mem_cons.1 hi with rfl | hi
      · exact hL
      · have hk' : k < ops.size := (Array.getElem?_eq_some_iff.1 ho).1
        have ho' : ops[e.on]? = some (ops[e.on]'(by omega)) := by simp [show e.on < ops.size by omega]
        exact ih e.on (by omega) _ ho' (fun e' he' hb => hc e.on _ ho' hL e' he' hb) i hi
    · simp at hi

theorem mem_opsSlots {ops : Array Oper} (h : slotsOk ops = true) {i j : Nat} {x y : Oper} (hij : i < j) (hx : ops[i]? = some x) (hy : ops[j]? = some y) : Oper.apart ops x y = true ∨ i ∈ (ancs ops).getD j [] := by
  have hj : j < ops.size := (Array.getElem?_eq_some_iff.1 hy).1
  unfold slotsOk at h
  have h1 := List.all_eq_true.1 h j (by simpa using hj)
  have h2 := List.all_eq_true.1 h1 i (by simpa using hij)
  simp only [hx, hy] at h2
  simpa using h2
/-- Who writes a slot that k writes or looks at stands in order with k. -/
theorem slot_order {ops : Array Oper} (h : slotsOk ops = true) {i k t : Nat} {x y : Oper} (hne : i ≠ k) (hx : ops[i]? = some x) (hy : ops[k]? = some y) (hd : x.dst = some t) (ht : y.dst = some t ∨ t ∈ y.looksAt ops) :
    (i < k → i ∈ (ancs ops).getD k []) ∧ (k < i → k ∈ (ancs ops).getD i []) := by
  constructor
  · intro hik
    rcases mem_opsSlots h hik hx hy with ha | ha
    · obtain ⟨h1, h2, h3⟩ := Oper.apart_spec ha
      rcases ht with ht | ht
      · exact absurd ht (h2 t hd)
      · exact absurd ht (h1 t hd)
    · exact ha
  · intro hki
    rcases mem_opsSlots h hki hy hx with ha | ha
    · obtain ⟨h1, h2, h3⟩ := Oper.apart_spec ha
      rcases ht with ht | ht
      · exact absurd hd (h2 t ht)
      · exact absurd ht (h3 t hd)
    · exact ha

theorem fpOf_read {op : Op} {lk : Operand → V} {nm : Nat} (h : fpOf op lk = some nm) : mayRead op = true := by
  cases op <;> simp [fpOf, mayRead] at h ⊢
  rename_i c
  cases hc : c.callee <;> simp [hc] at h ⊢
  rename_i b
  cases b <;> simp at h ⊢
theorem stepB_touch {P : Program} {op : Op} {lk : Operand → V} {blk : Option Blk} {nm : Nat} {v : V} {ef : Eff} (h : stepB P op lk blk nm = some (v, ef)) (ht : ef.touch ≠ []) : mayTouch op = true := by
  cases op <;> simp only [stepB] at h <;> (try rfl) <;> first
    | (obtain ⟨_, rfl⟩ := map_keep h; exact absurd rfl ht)
    | (injection h with h; injection h with h1 h2; subst h2; exact absurd rfl ht)
    | (cases h; done)
    | skip
  · -- pick
    split at h
    · injection h with h; injection h with h1 h2; subst h2; exact absurd rfl ht
    · cases h
  · split at h <;> first
      | (injection h with h; injection h with h1 h2; subst h2; exact absurd rfl ht)
      | cases h
  · split at h
    · injection h with h; injection h with h1 h2; subst h2; exact absurd rfl ht
    · obtain ⟨_, rfl⟩ := map_keep h; exact absurd rfl ht
  · rename_i fn first caps
    cases fn <;> simp only at h <;> first
      | (split at h
         · injection h with h; injection h with h1 h2; subst h2; exact absurd rfl ht
         · cases h)
      | cases h
  · rename_i c
    simp only [mayTouch]
    cases hc : c.callee <;> simp only [hc] at h
    · cases h
    · cases h
    · rename_i b
      unfold builtinB at h
      split at h
      · obtain ⟨_, rfl⟩ := map_keep h; exact absurd rfl ht
      · rfl
      · rfl
      · obtain ⟨_, rfl⟩ := map_keep h; exact absurd rfl ht
      · obtain ⟨_, rfl⟩ := map_keep h; exact absurd rfl ht
      · cases h

theorem stepF0_touch {P : Program} {fz : List Nat} {o : Oper} {lk : Operand → V} {blk : Option Blk} {nm : Nat} {v : V} {ef : Eff} (h : stepF0 P fz o lk blk nm = some (v, ef)) (ht : ef.touch ≠ []) : mayTouch o.op = true := by
  unfold stepF0 at h
  split at h
  · cases h
  · rename_i v1 ef1 hs
    split at h
    · injection h with h; injection h with h1 h2; subst h1 h2; exact stepB_touch hs ht
    · rename_i d hd
      cases hf : memN fz d with
      | false =>
        rw [hf] at h
        simp only [cond_false] at h
        injection h with h; injection h with h1 h2; subst h1 h2; exact stepB_touch hs ht
      | true =>
        rw [hf] at h
        simp only [cond_true] at h
        split at h
        · split at h
          case h_2 => cases h
          split at h
          case isFalse => cases h
          injection h with h; injection h with h1 h2; subst h2; exact absurd rfl ht
        · split at h
          case h_2 => cases h
          split at h
          case isFalse => cases h
          exact stepB_touch hs (by simp [Eff.touch])
        · injection h with h; injection h with h1 h2; subst h2; exact absurd rfl ht
        · cases h
theorem stepF_touch {P : Program} {fz : List Nat} {o : Oper} {lk : Operand → V} {blk : Option Blk} {nm : Nat} {v : V} {ef : Eff} (h : stepF P fz o lk blk nm = some (v, ef)) (ht : ef.touch ≠ []) : mayTouch o.op = true := by
  unfold stepF at h
  split at h
  · rename_i r hr
    unfold ownStep at hr
    split at hr
    · rename_i t len parts d hop hd
      rw [hop]
      rfl
    · cases hr
  · exact stepF0_touch h ht
/-- The new row under a name of one's own. -/
theorem fresh_rename {P : Program} {f : FuncId} {args : List V} {sz : Nat} {ds : List D} {S : St} (h : CallM P f args S fun r' S' => ∃ nm, S.next ≤ nm ∧ r' = .ms nm sz 0 ds.length ∧ S'.get nm = some (.row sz (ds.map V.d)) ∧ ∀ m k, m < S.next → S.get m = some k → S'.get m = some k)
    {g : Gh} {w : World} {vals : Array Value} {q : Nat} (h1 : RS g w S.get) (h2 : ∀ k, g.U k → k < S.next) (hq : ¬ g.U q) (h3 : vals.size = args.length) (h4 : ∀ (j : Nat) (y : V), args[j]? = some y → RV g w y (vals.getD j undef)) :
    Calls P f vals w fun e w' => ∃ v g', e = .returned v ∧ Ext g w g' w' ∧ RS g' w' (hset S.get q (some (.row sz (ds.map V.d)))) ∧ (∀ k, g'.U k → g.U k ∨ k = q) ∧ RV g' w' (.ms q sz 0 ds.length) v := by
  refine (h g w vals h1 h2 h3 h4).mono ?_
  rintro e w' ⟨r', v, S', g', rfl, hE, hS', hlt, hv, nm, hnm, rfl, hrow, hkeep⟩
  have hnU : ¬ g.U nm := fun hU => by have := h2 nm hU; omega
  have hsome : ∀ n, (S.get n).isSome → g.U n := fun n hn => by
    obtain ⟨k, hk⟩ := Option.isSome_iff_exists.1 hn
    exact (h1.ok n k hk).1
  have hkeep' : ∀ n k, S.get n = some k → S'.get n = some k := fun n k hk => hkeep n k (h2 n (h1.ok n k hk).1) hk
  have hne : ∀ n, (S.get n).isSome → n ≠ nm ∧ n ≠ q := fun n hn => ⟨fun e => hnU (e ▸ hsome n hn), fun e => hq (e ▸ hsome n hn)⟩
  let G : Gh := { ρ := fun x => if x = q then g'.ρ nm else g.ρ x, U := fun x => g.U x ∨ x = q, F := g'.F }
  have Gq : G.ρ q = g'.ρ nm := by simp [G]
  have Gn : ∀ n, n ≠ q → G.ρ n = g.ρ n := fun n hn => by simp [G, hn]
  have hEG : Ext g w G w' := ⟨fun n hn => .inl hn, fun n hn => Gn n (fun e => hq (e ▸ hn)), hE.fz, hE.keep, hE.os, hE.tape, hE.output, hE.size⟩
  have hEb : Ext (g.back g') w' G w' := ⟨fun n hn => .inl hn, fun n hn => Gn n (fun e => hq (e ▸ hn)), fun b hb => hb, fun _ _ => rfl, rfl, rfl, rfl, Nat.le_refl _⟩
  obtain ⟨hUn, r1, r2, r3, r4⟩ := hS'.ok nm _ hrow
  have hrowG : BlkOK G w' q (.row sz (ds.map V.d)) := by
    refine ⟨by rw [Gq]; exact r1, by rw [Gq]; exact r2, r3, ?_⟩
    rcases r4 with ⟨r4, r5⟩ | ⟨b, vs, t, r4, r5, r6, r7⟩
    · exact .inl ⟨by rw [Gq]; exact r4, r5⟩
    · refine .inr ⟨b, vs, t, by rw [Gq]; exact r4, r5, by rw [Gq]; exact r6, fun i j x y hx hy => ?_⟩
      have h9 := r7 i j x y hx hy
      rw [Gq]
      simp only [List.getElem?_map, Option.map_eq_some_iff] at hx
      obtain ⟨d, _, rfl⟩ := hx
      rw [d_cells] at hy
      simp only [List.getElem?_map, Option.map_eq_some_iff] at hy
      obtain ⟨y', _, rfl⟩ := hy
      cases h9 with | d h9 => exact .d h9
  refine ⟨v, G, rfl, hEG, ⟨fun n k hk => ?_, fun n m b hn hm hbn hbm => ?_, fun n b hn hb => ?_, hS'.ltF⟩, fun k hk => hk, ?_⟩
  · by_cases hnq : n = q
    · subst hnq
      simp [hset] at hk
      subst hk
      exact ⟨.inr rfl, hrowG⟩
    · simp [hset, hnq] at hk
      obtain ⟨hU, hok⟩ := h1.ok n k hk
      exact ⟨.inl hU, (((hS'.ok n k (hkeep' n k hk)).2.back hok hE.same hU)).mono hEb hU (fun _ _ => rfl)⟩
  · have conv : ∀ x, (hset S.get q (some (.row sz (ds.map V.d))) x).isSome → ∃ y, (S'.get y).isSome ∧ g'.ρ y = G.ρ x ∧ (x = q ∧ y = nm ∨ x ≠ q ∧ y = x) := by
      intro x hx
      by_cases hxq : x = q
      · exact ⟨nm, by simp [hrow], by rw [hxq, Gq], .inl ⟨hxq, rfl⟩⟩
      · have hx' : (S.get x).isSome := by simpa [hset, hxq] using hx
        obtain ⟨k, hk⟩ := Option.isSome_iff_exists.1 hx'
        exact ⟨x, by simp [hkeep' x k hk], by rw [Gn x hxq, hE.same x (hsome x hx')], .inr ⟨hxq, rfl⟩⟩
    obtain ⟨y, hy1, hy2, hy3⟩ := conv n hn
    obtain ⟨z, hz1, hz2, hz3⟩ := conv m hm
    have hyz := hS'.inj y z b hy1 hz1 (by rw [hy2]; exact hbn) (by rw [hz2]; exact hbm)
    rcases hy3 with ⟨a1, a2⟩ | ⟨a1, a2⟩
    · rcases hz3 with ⟨b1, b2⟩ | ⟨b1, b2⟩
      · rw [a1, b1]
      · have hms : (S.get m).isSome := by simpa [hset, b1] using hm
        exact absurd (b2.symm.trans (hyz.symm.trans a2)) (hne m hms).1
    · rcases hz3 with ⟨b1, b2⟩ | ⟨b1, b2⟩
      · have hns : (S.get n).isSome := by simpa [hset, a1] using hn
        exact absurd (a2.symm.trans (hyz.trans b2)) (hne n hns).1
      · rw [← a2, ← b2]; exact hyz
  · by_cases hnq : n = q
    · subst hnq
      rw [Gq] at hb
      exact hS'.notF nm b (by simp [hrow]) hb
    · have hns : (S.get n).isSome := by simpa [hset, hnq] using hn
      obtain ⟨k, hk⟩ := Option.isSome_iff_exists.1 hns
      rw [Gn n hnq] at hb
      exact hS'.notF n b (by simp [hkeep' n k hk]) (by rw [hE.same n (hsome n hns)]; exact hb)
  · have key : ∀ len v, RV g' w' (.ms nm sz 0 len) v → RV G w' (.ms q sz 0 len) v := by
      intro len v hv
      cases hv with
      | ms _ _ _ _ b p c hU hb hs hp hn hc => exact .ms q sz 0 len b p c (.inr rfl) (by rw [Gq]; exact hb) (by rw [Gq]; exact hs) (by rw [Gq]; exact hp) hn (by rw [Gq]; exact hc)
      | msZero _ _ _ a hU => exact .msZero _ _ _ _ (.inr rfl)
    exact key _ _ hv
end Go.Proofs.Ytafeehlpmdligaa.M
