/- Regions whose order is open: one walk in the order of the text, where what is not ordered does not meet. -/
import Derived.Test.YtjjmedgibcffhaaRMb
namespace Go.Proofs.Ytjjmedgibcffhaa.M
open Go.RowKit
set_option linter.unusedVariables false
set_option linter.unusedSimpArgs false

/-- What stands ahead of each operation by the edges that bind. -/
def ancStep (acc : List (List Nat)) (o : Oper) : List (List Nat) :=
  acc ++ [o.after.toList.flatMap fun e => if Region.binds .any e && decide (e.on < acc.length) then e.on :: acc.getD e.on [] else []]
def ancs (ops : Array Oper) : List (List Nat) := ops.toList.foldl ancStep []
def mayTouch : Op → Bool
  | .store .. | .mapUpdate .. | .alloc _ | .box .. | .buildSlice .. | .makeMap .. | .makeSlice .. => true
  | .call c => match c.callee with
    | .builtin .append | .builtin .delete | .value _ => true
    | _ => false
  | _ => false
def mayRead : Op → Bool
  | .store .. | .mapUpdate .. | .load .. | .lookup .. => true
  | .call c => match c.callee with
    | .value _ => true
    | .builtin .append | .builtin .delete => true
    | _ => false
  | _ => false
/-- Pairs that nothing orders and that may meet in memory. -/
def unord (ops : Array Oper) : List (Nat × Nat) :=
  let an := ancs ops
  (List.range ops.size).flatMap fun j => (List.range j).filterMap fun i =>
    match ops[i]?, ops[j]? with
    | some x, some y => if ((mayTouch x.op && (mayTouch y.op || mayRead y.op)) || (mayRead x.op && mayTouch y.op)) && !(an.getD j []).contains i then some (i, j) else none
    | _, _ => none
/-- The slots keep to the order of the text. -/
def slotsOk (ops : Array Oper) : Bool :=
  let an := ancs ops
  (List.range ops.size).all fun j => (List.range j).all fun i =>
    match ops[i]?, ops[j]? with
    | some x, some y => Oper.apart ops x y || (an.getD j []).contains i
    | _, _ => true
def edgesOk (ops : Array Oper) : Bool := (List.range ops.size).all fun j => match ops[j]? with
  | some o => o.after.toList.all fun e => !Region.binds .any e || decide (e.on < j)
  | none => true

def Eff.touch : Eff → List Nat
  | .keep => []
  | .put nm _ => [nm]
  | .move none nm _ => [nm]
  | .move (some o) nm _ => [o, nm]
  | .drop nm => [nm]

/-- What an operation has met: read, written. -/
abbrev Met := List Nat × List Nat
def Met.apart (a b : Met) : Prop := (∀ x, x ∈ a.2 → x ∉ b.1 ∧ x ∉ b.2) ∧ (∀ x, x ∈ a.1 → x ∉ b.2)
def metOk (ops : Array Oper) (ms : List Met) : Prop := ∀ p ∈ unord ops, Met.apart (ms.getD p.1 ([], [])) (ms.getD p.2 ([], []))

/-- The same, over a list of pairs that is written out. -/
def metL : List (Nat × Nat) → List Met → Prop
  | [], _ => True
  | p :: l, ms => Met.apart (ms.getD p.1 ([], [])) (ms.getD p.2 ([], [])) ∧ metL l ms
theorem metL_ok {ops : Array Oper} {L : List (Nat × Nat)} {ms : List Met} (hL : unord ops = L) (h : metL L ms) : metOk ops ms := by
  unfold metOk
  rw [hL]
  clear hL
  induction L with
  | nil => simp
  | cons p L ih =>
    intro q hq
    rcases List.mem_cons.1 hq with rfl | hq
    · exact h.1
    · exact ih h.2 q hq

/-- A call that only reads the blocks rs, which are as in H. -/
def PureOn (P : Program) (f : FuncId) (args : List V) (r : V) (rs : List Nat) (H : Nat → Option Blk) : Prop := ∀ S : St, (∀ m ∈ rs, S.get m = H m) → CallM P f args S fun r' S' => r' = r ∧ S' = S
theorem PureC.on {P : Program} {f : FuncId} {args : List V} {r : V} (h : PureC P f args r) (H : Nat → Option Blk) : PureOn P f args r [] H := fun S _ => h S

/-- A call that gives a new row of pure data. -/
def FreshOn (P : Program) (f : FuncId) (args : List V) (sz : Nat) (ds : List D) (rs : List Nat) (H : Nat → Option Blk) : Prop := ∀ S : St, (∀ m ∈ rs, S.get m = H m) → CallM P f args S fun r' S' => ∃ nm, S.next ≤ nm ∧ r' = .ms nm sz 0 ds.length ∧ S'.get nm = some (.row sz (ds.map V.d)) ∧ ∀ m k, m < S.next → S.get m = some k → S'.get m = some k

noncomputable def wpD (P : Program) (n : Nat) (fz : List Nat) (ops : Array Oper) (L : List (Nat × Nat)) (b : Nat) : List Oper → (Fr → St → Prop) → Fr → St → List Met → Prop
  | [], K, fr, S, ms => metL L ms ∧ K fr { S with next := b + ms.length }
  | o :: rest, K, fr, S, ms => dstOk n o.dst = true ∧ match guardM ops fr o with
    | none => False
    | some false => wpD P n fz ops L b rest K (fsetO fr o.dst (.tup [])) S (ms ++ [([], [])])
    | some true => match callOf o fr with
      | some (f, args) => isPlain P f = true ∧ ((∃ r rs, r.noRef = true ∧ PureOn P f args r rs S.get ∧ wpD P n fz ops L b rest K (fsetO fr o.dst r) S (ms ++ [(rs, [])])) ∨
          ∃ sz ds rs, FreshOn P f args sz ds rs S.get ∧ wpD P n fz ops L b rest K (fsetO fr o.dst (.ms (b + ms.length) sz 0 ds.length)) (S.set (b + ms.length) (some (.row sz (ds.map V.d)))) (ms ++ [(rs, [b + ms.length])]))
      | none => match stepF P fz o (lkE fr) (blkOf S.get (fpOf o.op (lkE fr))) (b + ms.length) with
        | some (v, ef) => wpD P n fz ops L b rest K (fsetO fr o.dst v) (ef.st S) (ms ++ [((fpOf o.op (lkE fr)).toList, ef.touch)])
        | none => False

/-- One operation of the walk in the order of the text. -/
inductive TrStep (P : Program) (fz : List Nat) (ops : Array Oper) (b k : Nat) (o : Oper) (fr : Fr) (H : Nat → Option Blk) : V → (Nat → Option Blk) → Met → Prop
  | skip (h : guardM ops fr o = some false) : TrStep P fz ops b k o fr H (.tup []) H ([], [])
  | call (f : FuncId) (args : List V) (r : V) (rs : List Nat) (h : guardM ops fr o = some true) (hc : callOf o fr = some (f, args)) (hp : isPlain P f = true) (hr : r.noRef = true) (hP : PureOn P f args r rs H) : TrStep P fz ops b k o fr H r H (rs, [])
  | fresh (f : FuncId) (args : List V) (sz : Nat) (ds : List D) (rs : List Nat) (h : guardM ops fr o = some true) (hc : callOf o fr = some (f, args)) (hp : isPlain P f = true) (hF : FreshOn P f args sz ds rs H) : TrStep P fz ops b k o fr H (.ms (b + k) sz 0 ds.length) (hset H (b + k) (some (.row sz (ds.map V.d)))) (rs, [b + k])
  | op (v : V) (ef : Eff) (h : guardM ops fr o = some true) (hc : callOf o fr = none) (hs : stepF P fz o (lkE fr) (blkOf H (fpOf o.op (lkE fr))) (b + k) = some (v, ef)) : TrStep P fz ops b k o fr H v (ef.on H) ((fpOf o.op (lkE fr)).toList, ef.touch)

theorem wpD_tr {P : Program} {n : Nat} {fz : List Nat} {ops : Array Oper} {L : List (Nat × Nat)} {b : Nat} {K : Fr → St → Prop} : ∀ (l : List Oper) (fr : Fr) (S : St) (ms : List Met), wpD P n fz ops L b l K fr S ms →
    ∃ (frs : Nat → Fr) (Hs : Nat → Nat → Option Blk) (vs : Nat → V) (mm : Nat → Met) (S' : St), frs 0 = fr ∧ Hs 0 = S.get ∧ (∀ k o, l[k]? = some o → dstOk n o.dst = true ∧ frs (k + 1) = fsetO (frs k) o.dst (vs k) ∧ TrStep P fz ops b (ms.length + k) o (frs k) (Hs k) (vs k) (Hs (k + 1)) (mm k)) ∧
      metL L (ms ++ (List.range l.length).map mm) ∧ K (frs l.length) S' ∧ S'.get = Hs l.length ∧ S'.next = b + (ms.length + l.length)
  | [], fr, S, ms, h => ⟨fun _ => fr, fun _ => S.get, fun _ => .undef, fun _ => ([], []), { S with next := b + ms.length }, rfl, rfl, by simp, by simpa using h.1, h.2, rfl, rfl⟩
  | o :: l, fr, S, ms, h => by
    simp only [wpD] at h
    obtain ⟨hd, h⟩ := h
    -- the head and the rest
    have glue : ∀ (v : V) (S1 : St) (mt : Met), TrStep P fz ops b ms.length o fr S.get v S1.get mt → wpD P n fz ops L b l K (fsetO fr o.dst v) S1 (ms ++ [mt]) →
        ∃ (frs : Nat → Fr) (Hs : Nat → Nat → Option Blk) (vs : Nat → V) (mm : Nat → Met) (S' : St), frs 0 = fr ∧ Hs 0 = S.get ∧ (∀ k o', (o :: l)[k]? = some o' → dstOk n o'.dst = true ∧ frs (k + 1) = fsetO (frs k) o'.dst (vs k) ∧ TrStep P fz ops b (ms.length + k) o' (frs k) (Hs k) (vs k) (Hs (k + 1)) (mm k)) ∧
          metL L (ms ++ (List.range (o :: l).length).map mm) ∧ K (frs (o :: l).length) S' ∧ S'.get = Hs (o :: l).length ∧ S'.next = b + (ms.length + (o :: l).length) := by
      intro v S1 mt hst hw
      obtain ⟨frs, Hs, vs, mm, S', e1, e2, e3, e4, e5, e6, e7⟩ := wpD_tr l _ S1 _ hw
      refine ⟨fun k => match k with | 0 => fr | k + 1 => frs k, fun k => match k with | 0 => S.get | k + 1 => Hs k, fun k => match k with | 0 => v | k + 1 => vs k, fun k => match k with | 0 => mt | k + 1 => mm k, S', rfl, rfl, ?_, ?_, e5, e6, ?_⟩
      · intro k o' ho'
        cases k with
        | zero =>
          simp at ho'
          subst ho'
          refine ⟨hd, e1, ?_⟩
          simp only [Nat.add_zero, e2]
          exact hst
        | succ k =>
          have := e3 k o' (by simpa using ho')
          simp only [List.length_append, List.length_singleton] at this
          refine ⟨this.1, this.2.1, ?_⟩
          rw [show ms.length + (k + 1) = ms.length + 1 + k by omega]
          exact this.2.2
      · simp only [List.length_cons, List.range_succ_eq_map, List.map_cons, List.map_map]
        simpa [Function.comp_def] using e4
      · simp at e7 ⊢
        omega
    split at h
    · exact h.elim
    · rename_i hg
      exact glue (.tup []) S ([], []) (.skip hg) h
    · rename_i hg
      split at h
      · rename_i f args hc
        obtain ⟨hp, ⟨r, rs, hr, hP, h⟩ | ⟨sz, ds, rs, hF, h⟩⟩ := h
        · exact glue r S (rs, []) (.call f args r rs hg hc hp hr hP) h
        · exact glue _ (S.set (b + ms.length) (some (.row sz (ds.map V.d)))) _ (by rw [St.get_set]; exact .fresh f args sz ds rs hg hc hp hF) h
      · rename_i hc
        split at h
        · rename_i v ef hs
          exact glue v (ef.st S) _ (by rw [Eff.st_get]; exact .op v ef hg hc hs) h
        · exact h.elim

/-! What an operation looks at decides what it does. -/
theorem lk_args {lk lk' : Operand → V} {xs : Array Operand} (h : ∀ x ∈ xs, lk x = lk' x) : xs.toList.map lk = xs.toList.map lk' := List.map_congr_left fun x hx => h x (by simpa using hx)
theorem lk_parts {lk lk' : Operand → V} {ps : Array (Nat × Operand)} (h : ∀ x ∈ (ps.toList.map (·.2)).toArray, lk x = lk' x) : (ps.toList.map fun p => (p.1, lk p.2)) = ps.toList.map fun p => (p.1, lk' p.2) :=
  List.map_congr_left fun p hp => by rw [h p.2 (by simpa using ⟨p.1, by simpa using hp⟩)]
theorem lk_opt {lk lk' : Operand → V} {x : Option Operand} (h : ∀ y ∈ x.toArray, lk y = lk' y) : x.map lk = x.map lk' := by
  cases x with
  | none => rfl
  | some x => simp [h x (by simp)]

theorem fpOf_congr {op : Op} {lk lk' : Operand → V} (h : ∀ x ∈ op.operands, lk x = lk' x) : fpOf op lk = fpOf op lk' := by
  cases op <;> simp only [Op.operands] at h <;> simp only [fpOf]
  case load t a => rw [h a (by simp)]
  case store t a x => rw [h a (by simp)]
  case lookup t m k ok => rw [h m (by simp)]
  case mapUpdate t m k v => rw [h m (by simp)]
  case call c =>
    have key : ((c.args.toList.head?).bind fun x => refOf (lk x)) = ((c.args.toList.head?).bind fun x => refOf (lk' x)) := by
      cases ha : c.args.toList with
      | nil => rfl
      | cons x xs =>
        have : x ∈ c.args := by rw [← Array.mem_toList_iff, ha]; simp
        simp [h x (by simp [Call.operands, this])]
    split <;> first | rfl | exact key

theorem stepB_congr {P : Program} {op : Op} {lk lk' : Operand → V} (h : ∀ x ∈ op.operands, lk x = lk' x) (blk : Option Blk) (nm : Nat) : stepB P op lk blk nm = stepB P op lk' blk nm := by
  cases op <;> simp only [Op.operands] at h
  case move x => simp [stepB, h x (by simp)]
  case assign x => simp [stepB, h x (by simp)]
  case pick c a b => simp [stepB, h c (by simp), h a (by simp), h b (by simp)]
  case nilCheck x => simp [stepB, h x (by simp)]
  case binOp op t x y yt => simp [stepB, h x (by simp), h y (by simp)]
  case unOp op t x => simp [stepB, h x (by simp)]
  case convert s t x => simp [stepB, h x (by simp)]
  case extract x i => simp [stepB, h x (by simp)]
  case fieldAddr s x f => simp [stepB, h x (by simp)]
  case indexAddr t x i => simp [stepB, h x (by simp), h i (by simp)]
  case index t x i => simp [stepB, h x (by simp), h i (by simp)]
  case slice t x lo hi mx =>
    simp only [stepB]
    rw [h x (by simp), lk_opt (fun y hy => h y (by simp at hy ⊢; simp [hy])), lk_opt (fun y hy => h y (by simp at hy ⊢; simp [hy])), lk_opt (x := mx) (fun y hy => h y (by simp at hy ⊢; simp [hy]))]
  case build t ps => simp only [stepB]; rw [lk_parts h]
  case buildSlice t len ps => simp only [stepB]; rw [lk_parts h]
  case makeFunc fn first caps =>
    cases fn <;> simp only [stepB]
    rw [lk_args (fun x hx => h x (by simp [hx]))]
  case load t a => simp [stepB, h a (by simp)]
  case store t a x => simp [stepB, h a (by simp), h x (by simp)]
  case box t x => simp [stepB, h x (by simp)]
  case lookup t m k ok => simp [stepB, h m (by simp), h k (by simp)]
  case mapUpdate t m k v => simp [stepB, h m (by simp), h k (by simp), h v (by simp)]
  case makeSlice t l c => simp [stepB, h l (by simp), h c (by simp)]
  case makeMap t r => cases r <;> rfl
  case call c =>
    simp only [stepB]
    have : c.args.toList.map lk = c.args.toList.map lk' := lk_args fun x hx => h x (by simp [Call.operands, hx])
    rw [this]
  all_goals rfl

theorem stepF_congr {P : Program} {fz : List Nat} {o : Oper} {lk lk' : Operand → V} (h : ∀ x ∈ o.op.operands, lk x = lk' x) (blk : Option Blk) (nm : Nat) : stepF P fz o lk blk nm = stepF P fz o lk' blk nm := by
  have e : ownStep P fz o lk nm = ownStep P fz o lk' nm := by
    unfold ownStep
    cases hop : o.op <;> try rfl
    rename_i t len ps
    cases o.dst with
    | none => rfl
    | some d =>
      simp only
      rw [lk_parts (by rw [hop] at h; exact h)]
  unfold stepF
  rw [e]
  unfold stepF0
  rw [stepB_congr h]

theorem callOf_congr {o : Oper} {fr fr' : Fr} (h : ∀ x ∈ o.op.operands, lkE fr x = lkE fr' x) : callOf o fr = callOf o fr' := by
  unfold callOf
  cases hop : o.op <;> simp only
  rename_i c
  rw [hop] at h
  simp only [Op.operands] at h
  cases hc : c.callee <;> simp only
  rename_i f
  have h1 : lkE fr f = lkE fr' f := h f (by simp [Call.operands, hc])
  have h2 : c.args.toList.map (lkE fr) = c.args.toList.map (lkE fr') := lk_args fun x hx => h x (by simp [Call.operands, hx])
  rw [h1, h2]

theorem anc_fold : ∀ (l : List Oper) (acc : List (List Nat)), (∀ k, k < acc.length → (l.foldl ancStep acc).getD k [] = acc.getD k []) ∧
    ∀ k o, l[k]? = some o → (l.foldl ancStep acc).getD (acc.length + k) [] = o.after.toList.flatMap fun e => if Region.binds .any e && decide (e.on < acc.length + k) then e.on :: (l.foldl ancStep acc).getD e.on [] else []
  | [], acc => ⟨fun k hk => rfl, by simp⟩
  | o :: l, acc => by
    obtain ⟨h1, h2⟩ := anc_fold l (ancStep acc o)
    have hl : (ancStep acc o).length = acc.length + 1 := by simp [ancStep]
    have h1' : ∀ k, k < acc.length → (l.foldl ancStep (ancStep acc o)).getD k [] = acc.getD k [] := fun k hk => by
      rw [h1 k (by omega)]
      simp [ancStep, List.getD, List.getElem?_append_left hk]
    refine ⟨h1', fun k o' ho' => ?_⟩
    simp only [List.foldl_cons]
    cases k with
    | zero =>
      simp at ho'
      subst ho'
      rw [Nat.add_zero, h1 _ (by omega)]
      have : (ancStep acc o).getD acc.length [] = o.after.toList.flatMap fun e => if Region.binds .any e && decide (e.on < acc.length) then e.on :: acc.getD e.on [] else [] := by
        simp [ancStep, List.getD]
      rw [this]
      congr 1
      funext e
      by_cases he : e.on < acc.length
      · simp only [he]
        rw [h1' _ he]
      · simp [he]
    | succ k =>
      have := h2 k o' (by simpa using ho')
      rw [hl] at this
      rw [show acc.length + (k + 1) = acc.length + 1 + k by omega]
      exact this
theorem ancs_at {ops : Array Oper} {k : Nat} {o : Oper} (h : ops[k]? = some o) : (ancs ops).getD k [] = o.after.toList.flatMap fun e => if Region.binds .any e && decide (e.on < k) then e.on :: (ancs ops).getD e.on [] else [] := by
  have := (anc_fold ops.toList []).2 k o (by simpa using h)
  simpa [ancs] using this

/-- A set of operations that holds with each one what it waits for. -/
def Closed (ops : Array Oper) (L : Nat → Prop) : Prop := ∀ k o, ops[k]? = some o → L k → ∀ e ∈ o.after.toList, Region.binds .any e = true → L e.on
theorem anc_in {ops : Array Oper} {L : Nat → Prop} (hc : Closed ops L) : ∀ (m k : Nat), k ≤ m → ∀ o, ops[k]? = some o → (∀ e ∈ o.after.toList, Region.binds .any e = true → L e.on) → ∀ i ∈ (ancs ops).getD k [], L i := by
  intro m
  induction m with
  | zero =>
    intro k hk o ho he i hi
    rw [ancs_at ho, List.mem_flatMap] at hi
    obtain ⟨e, hm, hi⟩ := hi
    split at hi
    · rename_i hc'
      simp at hc'
      omega
    · simp at hi
  | succ m ih =>
    intro k hk o ho he i hi
    rw [ancs_at ho, List.mem_flatMap] at hi
    obtain ⟨e, hm, hi⟩ := hi
    split at hi
    · rename_i hc'
      simp at hc'
      have hL := he e hm hc'.1
      rcases List.mem_cons.1 hi with rfl | hi
      · exact hL
      · have hk' : k < ops.size := (Array.getElem?_eq_some_iff.1 ho).1
        have ho' : ops[e.on]? = some (ops[e.on]'(by omega)) := by simp [show e.on < ops.size by omega]
        exact ih e.on (by omega) _ ho' (fun e' he' hb => hc e.on _ ho' hL e' he' hb) i hi
    · simp at hi

theorem mem_opsSlots {ops : Array Oper} (h : slotsOk ops = true) {i j : Nat} {x y : Oper} (hij : i < j) (hx : ops[i]? = some x) (hy : ops[j]? = some y) : Oper.apart ops x y = true ∨ i ∈ (ancs ops).getD j [] := by
  have hj : j < ops.size := (Array.getElem?_eq_some_iff.1 hy).1
  unfold slotsOk at h
  have h1 := List.all_eq_true.1 h j (by simpa using hj)
  have h2 := List.all_eq_true.1 h1 i (by simpa using hij)
  simp only [hx, hy] at h2
  simpa using h2
/-- Who writes a slot that k writes or looks at stands in order with k. -/
theorem slot_order {ops : Array Oper} (h : slotsOk ops = true) {i k t : Nat} {x y : Oper} (hne : i ≠ k) (hx : ops[i]? = some x) (hy : ops[k]? = some y) (hd : x.dst = some t) (ht : y.dst = some t ∨ t ∈ y.looksAt ops) :
    (i < k → i ∈ (ancs ops).getD k []) ∧ (k < i → k ∈ (ancs ops).getD i []) := by
  constructor
  · intro hik
    rcases mem_opsSlots h hik hx hy with ha | ha
    · obtain ⟨h1, h2, h3⟩ := Oper.apart_spec ha
      rcases ht with ht | ht
      · exact absurd ht (h2 t hd)
      · exact absurd ht (h1 t hd)
    · exact ha
  · intro hki
    rcases mem_opsSlots h hki hy hx with ha | ha
    · obtain ⟨h1, h2, h3⟩ := Oper.apart_spec ha
      rcases ht with ht | ht
      · exact absurd hd (h2 t ht)
      · exact absurd ht (h3 t hd)
    · exact ha

theorem fpOf_read {op : Op} {lk : Operand → V} {nm : Nat} (h : fpOf op lk = some nm) : mayRead op = true := by
  cases op <;> simp [fpOf, mayRead] at h ⊢
  rename_i c
  cases hc : c.callee <;> simp [hc] at h ⊢
  rename_i b
  cases b <;> simp at h ⊢
theorem stepB_touch {P : Program} {op : Op} {lk : Operand → V} {blk : Option Blk} {nm : Nat} {v : V} {ef : Eff} (h : stepB P op lk blk nm = some (v, ef)) (ht : ef.touch ≠ []) : mayTouch op = true := by
  cases op <;> simp only [stepB] at h <;> (try rfl) <;> first
    | (obtain ⟨_, rfl⟩ := map_keep h; exact absurd rfl ht)
    | (injection h with h; injection h with h1 h2; subst h2; exact absurd rfl ht)
    | (cases h; done)
    | skip
  · -- pick
    split at h
    · injection h with h; injection h with h1 h2; subst h2; exact absurd rfl ht
    · cases h
  · split at h <;> first
      | (injection h with h; injection h with h1 h2; subst h2; exact absurd rfl ht)
      | cases h
  · split at h
    · injection h with h; injection h with h1 h2; subst h2; exact absurd rfl ht
    · obtain ⟨_, rfl⟩ := map_keep h; exact absurd rfl ht
  · rename_i fn first caps
    cases fn <;> simp only at h <;> first
      | (split at h
         · injection h with h; injection h with h1 h2; subst h2; exact absurd rfl ht
         · cases h)
      | cases h
  · rename_i c
    simp only [mayTouch]
    cases hc : c.callee <;> simp only [hc] at h
    · cases h
    · cases h
    · rename_i b
      unfold builtinB at h
      split at h
      · obtain ⟨_, rfl⟩ := map_keep h; exact absurd rfl ht
      · rfl
      · rfl
      · obtain ⟨_, rfl⟩ := map_keep h; exact absurd rfl ht
      · obtain ⟨_, rfl⟩ := map_keep h; exact absurd rfl ht
      · cases h

theorem stepF0_touch {P : Program} {fz : List Nat} {o : Oper} {lk : Operand → V} {blk : Option Blk} {nm : Nat} {v : V} {ef : Eff} (h : stepF0 P fz o lk blk nm = some (v, ef)) (ht : ef.touch ≠ []) : mayTouch o.op = true := by
  unfold stepF0 at h
  split at h
  · cases h
  · rename_i v1 ef1 hs
    split at h
    · injection h with h; injection h with h1 h2; subst h1 h2; exact stepB_touch hs ht
    · rename_i d hd
      cases hf : memN fz d with
      | false =>
        rw [hf] at h
        simp only [cond_false] at h
        injection h with h; injection h with h1 h2; subst h1 h2; exact stepB_touch hs ht
      | true =>
        rw [hf] at h
        simp only [cond_true] at h
        split at h
        · split at h
          case h_2 => cases h
          split at h
          case isFalse => cases h
          injection h with h; injection h with h1 h2; subst h2; exact absurd rfl ht
        · split at h
          case h_2 => cases h
          split at h
          case isFalse => cases h
          exact stepB_touch hs (by simp [Eff.touch])
        · injection h with h; injection h with h1 h2; subst h2; exact absurd rfl ht
        · cases h
theorem stepF_touch {P : Program} {fz : List Nat} {o : Oper} {lk : Operand → V} {blk : Option Blk} {nm : Nat} {v : V} {ef : Eff} (h : stepF P fz o lk blk nm = some (v, ef)) (ht : ef.touch ≠ []) : mayTouch o.op = true := by
  unfold stepF at h
  split at h
  · rename_i r hr
    unfold ownStep at hr
    split at hr
    · rename_i t len parts d hop hd
      rw [hop]
      rfl
    · cases hr
  · exact stepF0_touch h ht
/-- The new row under a name of one's own. -/
theorem fresh_rename {P : Program} {f : FuncId} {args : List V} {sz : Nat} {ds : List D} {S : St} (h : CallM P f args S fun r' S' => ∃ nm, S.next ≤ nm ∧ r' = .ms nm sz 0 ds.length ∧ S'.get nm = some (.row sz (ds.map V.d)) ∧ ∀ m k, m < S.next → S.get m = some k → S'.get m = some k)
    {g : Gh} {w : World} {vals : Array Value} {q : Nat} (h1 : RS g w S.get) (h2 : ∀ k, g.U k → k < S.next) (hq : ¬ g.U q) (h3 : vals.size = args.length) (h4 : ∀ (j : Nat) (y : V), args[j]? = some y → RV g w y (vals.getD j undef)) :
    Calls P f vals w fun e w' => ∃ v g', e = .returned v ∧ Ext g w g' w' ∧ RS g' w' (hset S.get q (some (.row sz (ds.map V.d)))) ∧ (∀ k, g'.U k → g.U k ∨ k = q) ∧ RV g' w' (.ms q sz 0 ds.length) v := by
  refine (h g w vals h1 h2 h3 h4).mono ?_
  rintro e w' ⟨r', v, S', g', rfl, hE, hS', hlt, hv, nm, hnm, rfl, hrow, hkeep⟩
  have hnU : ¬ g.U nm := fun hU => by have := h2 nm hU; omega
  have hsome : ∀ n, (S.get n).isSome → g.U n := fun n hn => by
    obtain ⟨k, hk⟩ := Option.isSome_iff_exists.1 hn
    exact (h1.ok n k hk).1
  have hkeep' : ∀ n k, S.get n = some k → S'.get n = some k := fun n k hk => hkeep n k (h2 n (h1.ok n k hk).1) hk
  have hne : ∀ n, (S.get n).isSome → n ≠ nm ∧ n ≠ q := fun n hn => ⟨fun e => hnU (e ▸ hsome n hn), fun e => hq (e ▸ hsome n hn)⟩
  let G : Gh := { ρ := fun x => if x = q then g'.ρ nm else g.ρ x, U := fun x => g.U x ∨ x = q, F := g'.F }
  have Gq : G.ρ q = g'.ρ nm := by simp [G]
  have Gn : ∀ n, n ≠ q → G.ρ n = g.ρ n := fun n hn => by simp [G, hn]
  have hEG : Ext g w G w' := ⟨fun n hn => .inl hn, fun n hn => Gn n (fun e => hq (e ▸ hn)), hE.fz, hE.keep, hE.os, hE.tape, hE.output, hE.size⟩
  have hEb : Ext (g.back g') w' G w' := ⟨fun n hn => .inl hn, fun n hn => Gn n (fun e => hq (e ▸ hn)), fun b hb => hb, fun _ _ => rfl, rfl, rfl, rfl, Nat.le_refl _⟩
  obtain ⟨hUn, r1, r2, r3, r4⟩ := hS'.ok nm _ hrow
  have hrowG : BlkOK G w' q (.row sz (ds.map V.d)) := by
    refine ⟨by rw [Gq]; exact r1, by rw [Gq]; exact r2, r3, ?_⟩
    rcases r4 with ⟨r4, r5⟩ | ⟨b, vs, t, r4, r5, r6, r7⟩
    · exact .inl ⟨by rw [Gq]; exact r4, r5⟩
    · refine .inr ⟨b, vs, t, by rw [Gq]; exact r4, r5, by rw [Gq]; exact r6, fun i j x y hx hy => ?_⟩
      have h9 := r7 i j x y hx hy
      rw [Gq]
      simp only [List.getElem?_map, Option.map_eq_some_iff] at hx
      obtain ⟨d, _, rfl⟩ := hx
      rw [d_cells] at hy
      simp only [List.getElem?_map, Option.map_eq_some_iff] at hy
      obtain ⟨y', _, rfl⟩ := hy
      cases h9 with | d h9 => exact .d h9
  refine ⟨v, G, rfl, hEG, ⟨fun n k hk => ?_, fun n m b hn hm hbn hbm => ?_, fun n b hn hb => ?_, hS'.ltF⟩, fun k hk => hk, ?_⟩
  · by_cases hnq : n = q
    · subst hnq
      simp [hset] at hk
      subst hk
      exact ⟨.inr rfl, hrowG⟩
    · simp [hset, hnq] at hk
      obtain ⟨hU, hok⟩ := h1.ok n k hk
      exact ⟨.inl hU, (((hS'.ok n k (hkeep' n k hk)).2.back hok hE.same hU)).mono hEb hU (fun _ _ => rfl)⟩
  · have conv : ∀ x, (hset S.get q (some (.row sz (ds.map V.d))) x).isSome → ∃ y, (S'.get y).isSome ∧ g'.ρ y = G.ρ x ∧ (x = q ∧ y = nm ∨ x ≠ q ∧ y = x) := by
      intro x hx
      by_cases hxq : x = q
      · exact ⟨nm, by simp [hrow], by rw [hxq, Gq], .inl ⟨hxq, rfl⟩⟩
      · have hx' : (S.get x).isSome := by simpa [hset, hxq] using hx
        obtain ⟨k, hk⟩ := Option.isSome_iff_exists.1 hx'
        exact ⟨x, by simp [hkeep' x k hk], by rw [Gn x hxq, hE.same x (hsome x hx')], .inr ⟨hxq, rfl⟩⟩
    obtain ⟨y, hy1, hy2, hy3⟩ := conv n hn
    obtain ⟨z, hz1, hz2, hz3⟩ := conv m hm
    have hyz := hS'.inj y z b hy1 hz1 (by rw [hy2]; exact hbn) (by rw [hz2]; exact hbm)
    rcases hy3 with ⟨a1, a2⟩ | ⟨a1, a2⟩
    · rcases hz3 with ⟨b1, b2⟩ | ⟨b1, b2⟩
      · rw [a1, b1]
      · have hms : (S.get m).isSome := by simpa [hset, b1] using hm
        exact absurd (b2.symm.trans (hyz.symm.trans a2)) (hne m hms).1
    · rcases hz3 with ⟨b1, b2⟩ | ⟨b1, b2⟩
      · have hns : (S.get n).isSome := by simpa [hset, a1] using hn
        exact absurd (a2.symm.trans (hyz.trans b2)) (hne n hns).1
      · rw [← a2, ← b2]; exact hyz
  · by_cases hnq : n = q
    · subst hnq
      rw [Gq] at hb
      exact hS'.notF nm b (by simp [hrow]) hb
    · have hns : (S.get n).isSome := by simpa [hset, hnq] using hn
      obtain ⟨k, hk⟩ := Option.isSome_iff_exists.1 hns
      rw [Gn n hnq] at hb
      exact hS'.notF n b (by simp [hkeep' n k hk]) (by rw [hE.same n (hsome n hns)]; exact hb)
  · have key : ∀ len v, RV g' w' (.ms nm sz 0 len) v → RV G w' (.ms q sz 0 len) v := by
      intro len v hv
      cases hv with
      | ms _ _ _ _ b p c hU hb hs hp hn hc => exact .ms q sz 0 len b p c (.inr rfl) (by rw [Gq]; exact hb) (by rw [Gq]; exact hs) (by rw [Gq]; exact hp) hn (by rw [Gq]; exact hc)
      | msZero _ _ _ a hU => exact .msZero _ _ _ _ (.inr rfl)
    exact key _ _ hv
end Go.Proofs.Ytjjmedgibcffhaa.M
/- Regions whose order is open: every order comes to what the walk in the order of the text comes to. -/
namespace Go.Proofs.Ytjjmedgibcffhaa.M
open Go.RowKit
set_option linter.unusedVariables false
set_option linter.unusedSimpArgs false

theorem Eff.on_ne {ef : Eff} {H : Nat → Option Blk} {nm : Nat} (h : nm ∉ ef.touch) : ef.on H nm = H nm := by
  cases ef with
  | keep => rfl
  | put m k => simp [Eff.touch] at h; simp [Eff.on, hset, h]
  | move o m k => cases o <;> simp [Eff.touch] at h <;> simp [Eff.on, hset, h]
  | drop m => simp [Eff.touch] at h; simp [Eff.on, hset, h]
theorem Eff.on_eq {ef : Eff} {H H' : Nat → Option Blk} {nm : Nat} (h : nm ∈ ef.touch) : ef.on H nm = ef.on H' nm := by
  cases ef with
  | keep => simp [Eff.touch] at h
  | put m k => simp [Eff.touch] at h; subst h; simp [Eff.on, hset]
  | move o m k => cases o with
    | none => simp [Eff.touch] at h; subst h; simp [Eff.on, hset]
    | some o =>
      simp [Eff.touch] at h
      simp only [Eff.on, hset]
      rcases h with rfl | rfl
      · simp
      · simp
  | drop m => simp [Eff.touch] at h; subst h; simp [Eff.on, hset]
theorem TrStep.same {P : Program} {fz : List Nat} {ops : Array Oper} {b k : Nat} {o : Oper} {fr : Fr} {H H' : Nat → Option Blk} {v : V} {m : Met} (h : TrStep P fz ops b k o fr H v H' m) {nm : Nat} (hn : nm ∉ m.2) : H' nm = H nm := by
  cases h with
  | skip => rfl
  | call => rfl
  | fresh => simp only [List.mem_singleton] at hn; simp [hset, hn]
  | op v ef h hc hs => exact Eff.on_ne hn
theorem TrStep.kinds {P : Program} {fz : List Nat} {ops : Array Oper} {b k : Nat} {o : Oper} {fr : Fr} {H H' : Nat → Option Blk} {v : V} {m : Met} (h : TrStep P fz ops b k o fr H v H' m) : (∀ x, x ∈ m.2 → mayTouch o.op = true) ∧ (∀ x, x ∈ m.1 → mayRead o.op = true) := by
  cases h with
  | skip => simp
  | call f args r rs h hc =>
    refine ⟨by simp, fun x _ => ?_⟩
    unfold callOf at hc
    split at hc
    case h_2 => cases hc
    rename_i c hop
    split at hc
    case h_2 => cases hc
    rename_i fo hcal
    simp [hop, mayRead, hcal]
  | fresh f args sz ds rs h hc =>
    unfold callOf at hc
    split at hc
    case h_2 => cases hc
    rename_i c hop
    split at hc
    case h_2 => cases hc
    rename_i fo hcal
    exact ⟨fun x _ => by simp [hop, mayTouch, hcal], fun x _ => by simp [hop, mayRead, hcal]⟩
  | op v ef h hc hs =>
    refine ⟨fun x hx => stepF_touch hs (fun e => by rw [e] at hx; simp at hx), fun x hx => ?_⟩
    cases hf : fpOf o.op (lkE fr) with
    | none => simp [hf] at hx
    | some q => exact fpOf_read hf

theorem mem_unord {ops : Array Oper} {i j : Nat} {x y : Oper} (hij : i < j) (hx : ops[i]? = some x) (hy : ops[j]? = some y) (hk : ((mayTouch x.op && (mayTouch y.op || mayRead y.op)) || (mayRead x.op && mayTouch y.op)) = true) (hn : i ∉ (ancs ops).getD j []) : (i, j) ∈ unord ops := by
  have hj : j < ops.size := (Array.getElem?_eq_some_iff.1 hy).1
  unfold unord
  simp only [List.mem_flatMap, List.mem_range, List.mem_filterMap]
  refine ⟨j, hj, i, hij, ?_⟩
  simp only [hx, hy]
  rw [if_pos]
  rw [hk]
  simpa using hn

section
variable {P : Program} {n b : Nat} {fz : List Nat} {ops : Array Oper} {frs : Nat → Fr} {Hs : Nat → Nat → Option Blk} {vs : Nat → V} {mm : Nat → Met}
variable (hst : ∀ k o, ops[k]? = some o → dstOk n o.dst = true ∧ frs (k + 1) = fsetO (frs k) o.dst (vs k) ∧ TrStep P fz ops b k o (frs k) (Hs k) (vs k) (Hs (k + 1)) (mm k))
variable (hmet : metOk ops ((List.range ops.size).map mm)) (hslots : slotsOk ops = true) (hedges : edgesOk ops = true)
include hst

theorem met_order (hmet : metOk ops ((List.range ops.size).map mm)) {i k nm : Nat} {x y : Oper} (hne : i ≠ k) (hx : ops[i]? = some x) (hy : ops[k]? = some y) (hi : nm ∈ (mm i).2) (hk : nm ∈ (mm k).1 ∨ nm ∈ (mm k).2) :
    (i < k → i ∈ (ancs ops).getD k []) ∧ (k < i → k ∈ (ancs ops).getD i []) := by
  have his : i < ops.size := (Array.getElem?_eq_some_iff.1 hx).1
  have hks : k < ops.size := (Array.getElem?_eq_some_iff.1 hy).1
  have gi : ((List.range ops.size).map mm).getD i ([], []) = mm i := by simp [List.getD, his]
  have gk : ((List.range ops.size).map mm).getD k ([], []) = mm k := by simp [List.getD, hks]
  have ki := (hst i x hx).2.2.kinds
  have kk := (hst k y hy).2.2.kinds
  have hti := ki.1 nm hi
  constructor
  · intro hik
    rcases Classical.em (i ∈ (ancs ops).getD k []) with h | h
    · exact h
    · have := hmet _ (mem_unord hik hx hy (by
        rcases hk with hk | hk
        · simp [hti, kk.2 nm hk]
        · simp [hti, kk.1 nm hk]) h)
      simp only [gi, gk] at this
      rcases hk with hk | hk
      · exact absurd hk (this.1 nm hi).1
      · exact absurd hk (this.1 nm hi).2
  · intro hki
    rcases Classical.em (k ∈ (ancs ops).getD i []) with h | h
    · exact h
    · have := hmet _ (mem_unord hki hy hx (by
        rcases hk with hk | hk
        · simp [hti, kk.2 nm hk]
        · simp [hti, kk.1 nm hk]) h)
      simp only [gi, gk] at this
      rcases hk with hk | hk
      · exact absurd hi (this.2 nm hk)
      · exact absurd hi (this.1 nm hk).2

/-- No one writes a slot between two places: it stays. -/
theorem frs_same {t : Nat} : ∀ (d p q : Nat), p + d = q → q ≤ ops.size → (∀ i x, ops[i]? = some x → p ≤ i → i < q → x.dst ≠ some t) → frs q t = frs p t
  | 0, p, q, h, _, _ => by simp at h; rw [h]
  | d + 1, p, q, h, hq, hn => by
    have ih := frs_same d p (p + d) rfl (by omega) (fun i x hx h1 h2 => hn i x hx h1 (by omega))
    have ho : ops[p + d]? = some (ops[p + d]'(by omega)) := by simp [show p + d < ops.size by omega]
    obtain ⟨_, h2, _⟩ := hst (p + d) _ ho
    have hne := hn (p + d) _ ho (by omega) (by omega)
    rw [← ih, ← h, ← Nat.add_assoc, h2]
    cases hd : (ops[p + d]'(by omega)).dst with
    | none => rfl
    | some d' =>
      rw [hd] at hne
      simp only [fsetO, fset]
      rw [if_neg (fun e => hne (by rw [e]))]
theorem Hs_same {nm : Nat} : ∀ (d p q : Nat), p + d = q → q ≤ ops.size → (∀ i, p ≤ i → i < q → nm ∉ (mm i).2) → Hs q nm = Hs p nm
  | 0, p, q, h, _, _ => by simp at h; rw [h]
  | d + 1, p, q, h, hq, hn => by
    have ih := Hs_same d p (p + d) rfl (by omega) (fun i h1 h2 => hn i h1 (by omega))
    have ho : ops[p + d]? = some (ops[p + d]'(by omega)) := by simp [show p + d < ops.size by omega]
    obtain ⟨_, _, h3⟩ := hst (p + d) _ ho
    rw [← ih, ← h, ← Nat.add_assoc]
    exact h3.same (hn (p + d) (by omega) (by omega))

/-- The state when the operations of L are done. -/
structure Part (L : Nat → Prop) (fr : Fr) (H : Nat → Option Blk) : Prop where
  slot : ∀ t p, p ≤ ops.size → (∀ i x, ops[i]? = some x → x.dst = some t → (L i ↔ i < p)) → fr t = frs p t
  blk : ∀ nm p, p ≤ ops.size → (∀ i, i < ops.size → nm ∈ (mm i).2 → (L i ↔ i < p)) → H nm = Hs p nm
end

theorem filter_lt {p p' : Nat → Bool} {i : Nat} : ∀ {l : List Nat}, (∀ x, p' x = true → p x = true) → i ∈ l → p i = true → p' i = false → (l.filter p').length < (l.filter p).length
  | [], _, hi, _, _ => by simp at hi
  | x :: l, hpp, hi, h1, h2 => by
    have mono : ∀ l : List Nat, (l.filter p').length ≤ (l.filter p).length := by
      intro l
      induction l with
      | nil => simp
      | cons y l ih =>
        by_cases hy : p' y = true
        · simp [List.filter_cons, hy, hpp y hy, ih]
        · by_cases hy2 : p y = true
          · simp [List.filter_cons, hy, hy2]; omega
          · simp [List.filter_cons, hy, hy2, ih]
    rcases List.mem_cons.1 hi with rfl | hi
    · simp [List.filter_cons, h1, h2]
      have := mono l
      omega
    · have ih := filter_lt (l := l) hpp hi h1 h2
      by_cases hy : p' x = true
      · simp [List.filter_cons, hy, hpp x hy]; omega
      · by_cases hy2 : p x = true
        · simp [List.filter_cons, hy, hy2]; omega
        · simp [List.filter_cons, hy, hy2]; omega

theorem mem_ready {md : Region.Mode} {ops : Array Oper} {listed : Array Bool} {i : Nat} : i ∈ Region.ready md ops listed ↔ i < ops.size ∧ listed.getD i true = false ∧ ∀ o, ops[i]? = some o → ∀ e ∈ o.after.toList, Region.binds md e = true → listed.getD e.on false = true := by
  unfold Region.ready
  simp only [List.mem_filter, List.mem_range, Bool.and_eq_true, Bool.not_eq_true']
  constructor
  · rintro ⟨h1, h2, h3⟩
    refine ⟨h1, h2, fun o ho e he hb => ?_⟩
    have ho' : ops[i] = o := by simpa [h1] using ho
    simp only [h1, Array.getElem?_eq_getElem, Option.map_some, Option.getD_some] at h3
    rw [ho', Array.all_eq_true_iff_forall_mem] at h3
    have := h3 e (by simpa using he)
    simpa [hb] using this
  · rintro ⟨h1, h2, h3⟩
    refine ⟨h1, h2, ?_⟩
    simp only [h1, Array.getElem?_eq_getElem, Option.map_some, Option.getD_some]
    rw [Array.all_eq_true_iff_forall_mem]
    intro e he
    have := h3 ops[i] (by simp [h1]) e (by simpa using he)
    cases hb : Region.binds md e <;> simp_all

set_option maxHeartbeats 1000000 in
theorem drawn_sound {P : Program} {n b : Nat} {fz : List Nat} {ops : Array Oper} {frs : Nat → Fr} {Hs : Nat → Nat → Option Blk} {vs : Nat → V} {mm : Nat → Met}
    (hst : ∀ k o, ops[k]? = some o → dstOk n o.dst = true ∧ frs (k + 1) = fsetO (frs k) o.dst (vs k) ∧ TrStep P fz ops b k o (frs k) (Hs k) (vs k) (Hs (k + 1)) (mm k))
    (hmet : metOk ops ((List.range ops.size).map mm)) (hslots : slotsOk ops = true) (hedges : edgesOk ops = true) {Q : Exit → Act → World → Prop} {g0 : Gh} {w0 : World}
    (hfin : ∀ g w a, Ext g0 w0 g w → RS g w (Hs ops.size) → (∀ k, g.U k → k < b + ops.size) → RF n g w (frs ops.size) a → Q .normal a w) :
    ∀ (fuel : Nat) (listed : Array Bool) (fr : Fr) (H : Nat → Option Blk) (g : Gh) (w : World) (a : Act), listed.size = ops.size → Closed ops (fun i => listed.getD i false = true) → ((List.range ops.size).filter fun i => !listed.getD i false).length ≤ fuel →
      Part (ops := ops) (frs := frs) (Hs := Hs) (mm := mm) (fun i => listed.getD i false = true) fr H → Ext g0 w0 g w → RS g w H → (∀ k, g.U k → k < b ∨ ∃ i, i < ops.size ∧ listed.getD i false = true ∧ k = b + i) → RF n g w fr a → wpAny P .any ops Q fuel listed a w := by
  have gd : ∀ (listed : Array Bool) (i : Nat), listed.size = ops.size → i < ops.size → listed.getD i true = listed.getD i false := fun listed i hs hi => by simp [show i < listed.size by omega]
  -- at the end
  have atEnd : ∀ (listed : Array Bool) (fr : Fr) (H : Nat → Option Blk) (g : Gh) (w : World) (a : Act), listed.size = ops.size → (∀ i, i < ops.size → listed.getD i false = true) → Part (ops := ops) (frs := frs) (Hs := Hs) (mm := mm) (fun i => listed.getD i false = true) fr H → Ext g0 w0 g w → RS g w H → (∀ k, g.U k → k < b ∨ ∃ i, i < ops.size ∧ listed.getD i false = true ∧ k = b + i) → RF n g w fr a → Q .normal a w := by
    intro listed fr H g w a hsz hall hpart hE hS hU hr
    have hH : H = Hs ops.size := by
      funext nm
      exact hpart.blk nm ops.size (Nat.le_refl _) (fun i hi _ => ⟨fun _ => hi, fun _ => hall i hi⟩)
    have hf : fr = frs ops.size := by
      funext t
      exact hpart.slot t ops.size (Nat.le_refl _) (fun i x hx _ => ⟨fun _ => (Array.getElem?_eq_some_iff.1 hx).1, fun hi => hall i hi⟩)
    subst hH hf
    exact hfin g w a hE hS (fun k hk => by rcases hU k hk with h | ⟨i, h1, _, rfl⟩ <;> omega) hr
  have noReady : ∀ (listed : Array Bool), listed.size = ops.size → Region.ready .any ops listed = [] → ∀ i, i < ops.size → listed.getD i false = true := by
    intro listed hsz hnil i
    induction i using Nat.strongRecOn with
    | _ i ih =>
      intro hi
      rcases hb : listed.getD i false with _ | _
      · exfalso
        have : i ∈ Region.ready .any ops listed := by
          rw [mem_ready]
          refine ⟨hi, by rw [gd listed i hsz hi]; exact hb, fun o ho e he hbd => ?_⟩
          have := List.all_eq_true.1 hedges i (by simpa using hi)
          simp only [ho] at this
          have := List.all_eq_true.1 this e he
          simp [hbd] at this
          exact ih e.on this (by omega)
        rw [hnil] at this
        simp at this
      · rfl
  intro fuel
  induction fuel with
  | zero =>
    intro listed fr H g w a hsz hcl hcount hpart hE hS hU hr
    have hall : ∀ i, i < ops.size → listed.getD i false = true := by
      intro i hi
      rcases hb : listed.getD i false with _ | _
      · have : i ∈ (List.range ops.size).filter fun i => !listed.getD i false := by rw [List.mem_filter]; exact ⟨by simpa using hi, by simp only [hb]; rfl⟩
        rw [List.eq_nil_of_length_eq_zero (Nat.le_zero.1 hcount)] at this
        simp at this
      · rfl
    refine ⟨?_, atEnd listed fr H g w a hsz hall hpart hE hS hU hr⟩
    apply List.eq_nil_iff_forall_not_mem.2
    intro i hi
    rw [mem_ready] at hi
    have := hall i hi.1
    rw [← gd listed i hsz hi.1, hi.2.1] at this
    cases this
  | succ fuel ih =>
    intro listed fr H g w a hsz hcl hcount hpart hE hS hU hr
    refine ⟨fun hnil => atEnd listed fr H g w a hsz (noReady listed hsz hnil) hpart hE hS hU hr, fun k hk => ?_⟩
    rw [mem_ready] at hk
    obtain ⟨hks, hkl, hke⟩ := hk
    have hkl' : listed.getD k false = false := by rw [← gd listed k hsz hks]; exact hkl
    have ho : ops[k]? = some ops[k] := by simp [hks]
    generalize hok : ops[k] = o at ho
    obtain ⟨hdst, hfr, htr⟩ := hst k o ho
    have hke' := hke o ho
    have hanc : ∀ i ∈ (ancs ops).getD k [], listed.getD i false = true := anc_in hcl k k (Nat.le_refl _) o ho hke'
    have hdesc : ∀ i x, ops[i]? = some x → k ∈ (ancs ops).getD i [] → ¬ listed.getD i false = true := by
      intro i x hx hki hli
      have := anc_in hcl i i (Nat.le_refl _) x hx (fun e he hb => hcl i x hx hli e he hb) k hki
      simp only [hkl'] at this
      cases this
    -- slots that k writes or looks at
    have hslot : ∀ t, (o.dst = some t ∨ t ∈ o.looksAt ops) → ∀ i x, ops[i]? = some x → x.dst = some t → (listed.getD i false = true ↔ i < k) := by
      intro t ht i x hx hxd
      by_cases hik : i = k
      · subst hik
        simp only [hkl']
        constructor
        · intro h; cases h
        · intro h; omega
      · obtain ⟨h1, h2⟩ := slot_order hslots hik hx ho hxd ht
        constructor
        · intro hl
          rcases Nat.lt_or_ge i k with h | h
          · exact h
          · exact absurd hl (hdesc i x hx (h2 (by omega)))
        · intro h
          exact hanc i (h1 h)
    have hops : ∀ x ∈ o.op.operands, lkE fr x = lkE (frs k) x := by
      intro x hx
      cases x with
      | tmp t =>
        simp only [lkE]
        exact hpart.slot t k (by omega) (hslot t (.inr (by
          unfold Oper.looksAt
          refine List.mem_append_left _ (List.mem_filterMap.2 ⟨.tmp t, by simpa using hx, rfl⟩))))
      | _ => rfl
    have hguard : guardM ops fr o = guardM ops (frs k) o := by
      unfold guardM
      cases hg : o.guard with
      | none => rfl
      | some p =>
        obtain ⟨j, want⟩ := p
        simp only
        cases hd : (ops[j]?).bind (·.dst) with
        | none => rfl
        | some d =>
          simp only
          rw [hpart.slot d k (by omega) (hslot d (.inr (by
            unfold Oper.looksAt
            refine List.mem_append_right _ ?_
            simp [hg, hd])))]
    have hcall : callOf o fr = callOf o (frs k) := callOf_congr hops
    have hfp : fpOf o.op (lkE fr) = fpOf o.op (lkE (frs k)) := fpOf_congr hops
    -- the list with k
    have hlist : ∀ i, (listed.setIfInBounds k true).getD i false = true ↔ listed.getD i false = true ∨ i = k := by
      intro i
      by_cases hik : i = k
      · subst hik
        simp [show i < listed.size by omega]
      · simp only [Array.getD_eq_getD_getElem?, Array.getElem?_setIfInBounds]
        rw [if_neg (fun e => hik e.symm)]
        simp [hik]
    have hsz' : (listed.setIfInBounds k true).size = ops.size := by simpa using hsz
    have hcl' : Closed ops (fun i => (listed.setIfInBounds k true).getD i false = true) := by
      intro i x hx hi e he hb
      rw [hlist] at hi ⊢
      rcases hi with hi | rfl
      · exact .inl (hcl i x hx hi e he hb)
      · rw [ho] at hx
        injection hx with hx
        subst hx
        exact .inl (hke' e he hb)
    have hcount' : ((List.range ops.size).filter fun i => !(listed.setIfInBounds k true).getD i false).length ≤ fuel := by
      have := filter_lt (p := fun i => !listed.getD i false) (p' := fun i => !(listed.setIfInBounds k true).getD i false) (i := k) (l := List.range ops.size) (fun x hx => by
        have h1 : ¬ (listed.setIfInBounds k true).getD x false = true := by simpa using hx
        rw [hlist] at h1
        simp only [not_or] at h1
        simpa using h1.1) (by simpa using hks) (by simp only [hkl']; rfl) (by
        have : (listed.setIfInBounds k true).getD k false = true := (hlist k).2 (.inr rfl)
        simp only [this]; rfl)
      omega
    have hslot' : ∀ (t p : Nat), p ≤ ops.size → (∀ i x, ops[i]? = some x → x.dst = some t → ((listed.setIfInBounds k true).getD i false = true ↔ i < p)) → fsetO fr o.dst (vs k) t = frs p t := by
      intro t p hp hi
      by_cases hd : o.dst = some t
      · have hkp : k < p := (hi k o ho hd).1 ((hlist k).2 (.inr rfl))
        have hlast : frs p t = frs (k + 1) t := by
          refine frs_same hst (p - (k + 1)) (k + 1) p (by omega) hp fun i x hx h1 h2 hxd => ?_
          have hl := (hi i x hx hxd).2 h2
          rw [hlist] at hl
          rcases hl with hl | rfl
          · exact absurd ((hslot t (.inl hd) i x hx hxd).1 hl) (by omega)
          · omega
        rw [hlast, hfr, hd]
        simp [fsetO, fset]
      · have e1 : fsetO fr o.dst (vs k) t = fr t := by
          cases hdd : o.dst with
          | none => rfl
          | some d =>
            simp only [fsetO, fset]
            rw [if_neg (fun e => hd (by rw [hdd, e]))]
        rw [e1]
        refine hpart.slot t p hp fun i x hx hxd => ?_
        rw [← hi i x hx hxd, hlist]
        constructor
        · exact .inl
        · rintro (h | rfl)
          · exact h
          · rw [ho] at hx; injection hx with hx; subst hx; exact absurd hxd hd
    have hblkOrd : ∀ nm, (nm ∈ (mm k).1 ∨ nm ∈ (mm k).2) → ∀ i, i < ops.size → nm ∈ (mm i).2 → (listed.getD i false = true ↔ i < k) := by
      intro nm hnm i hi him
      by_cases hik : i = k
      · subst hik
        simp only [hkl']
        constructor
        · intro h; cases h
        · intro h; omega
      · have hx : ops[i]? = some ops[i] := by simp [hi]
        obtain ⟨h1, h2⟩ := met_order hst hmet hik hx ho him hnm
        constructor
        · intro hl
          rcases Nat.lt_or_ge i k with h | h
          · exact h
          · exact absurd hl (hdesc i _ hx (h2 (by omega)))
        · intro h
          exact hanc i (h1 h)
    have hblk' : ∀ (H' : Nat → Option Blk), (∀ nm, nm ∈ (mm k).2 → H' nm = Hs (k + 1) nm) → (∀ nm, nm ∉ (mm k).2 → H' nm = H nm) → ∀ (nm p : Nat), p ≤ ops.size → (∀ i, i < ops.size → nm ∈ (mm i).2 → ((listed.setIfInBounds k true).getD i false = true ↔ i < p)) → H' nm = Hs p nm := by
      intro H' ht hn nm p hp hi
      by_cases hm : nm ∈ (mm k).2
      · have hkp : k < p := (hi k hks hm).1 ((hlist k).2 (.inr rfl))
        rw [ht nm hm]
        refine (Hs_same hst (p - (k + 1)) (k + 1) p (by omega) hp fun i h1 h2 him => ?_).symm
        have hl := (hi i (by omega) him).2 h2
        rw [hlist] at hl
        rcases hl with hl | rfl
        · exact absurd ((hblkOrd nm (.inr hm) i (by omega) him).1 hl) (by omega)
        · omega
      · rw [hn nm hm]
        refine hpart.blk nm p hp fun i hi' him => ?_
        rw [← hi i hi' him, hlist]
        constructor
        · exact .inl
        · rintro (h | rfl)
          · exact h
          · exact absurd him hm
    have hU' : ∀ g' : Gh, (∀ q, g'.U q → g.U q ∨ q = b + k) → ∀ q, g'.U q → q < b ∨ ∃ i, i < ops.size ∧ (listed.setIfInBounds k true).getD i false = true ∧ q = b + i := by
      intro g' hg' q hq
      rcases hg' q hq with h | rfl
      · rcases hU q h with h | ⟨i, h1, h2, h3⟩
        · exact .inl h
        · exact .inr ⟨i, h1, (hlist i).2 (.inl h2), h3⟩
      · exact .inr ⟨k, hks, (hlist k).2 (.inr rfl), rfl⟩
    -- the operation
    unfold wpOp
    simp only [ho]
    have hdone : ∀ (v : V) (Hn : Nat → Option Blk) (mk : Met), vs k = v → Hs (k + 1) = Hn → mm k = mk → TrStep P fz ops b k o (frs k) (Hs k) v Hn mk →
        if Region.wanted o (yielded ops a.tmps) = true then o.wp P a w (wpAny P .any ops Q fuel (listed.setIfInBounds k true)) Q ∨ (o.asks P a w ∧ LetsOut Q) else wpAny P .any ops Q fuel (listed.setIfInBounds k true) (a.put o.dst undef) w := by
      intro v Hn mk hvk hHk hmk htr
      cases htr with
      | skip hg =>
        rw [← hguard] at hg
        have hw := guardM_wanted hg hr
        rw [if_neg (by rw [hw]; simp)]
        refine ih _ (fsetO fr o.dst (.tup [])) H g w _ hsz' hcl' hcount' ⟨?_, ?_⟩ hE hS (hU' g fun q h => .inl h) (hr.putO hdst skip_rv)
        · rw [← hvk]; exact hslot'
        · exact hblk' H (fun nm hnm => by rw [hmk] at hnm; simp at hnm) (fun nm _ => rfl)
      | call f args r rs hg hc hp hrn hP =>
        rw [← hguard] at hg
        rw [← hcall] at hc
        have hw := guardM_wanted hg hr
        rw [if_pos hw]
        left
        unfold Oper.wp
        unfold callOf at hc
        split at hc
        case h_2 => cases hc
        rename_i c hop
        split at hc
        case h_2 => cases hc
        rename_i fo hcal
        split at hc
        case h_2 => cases hc
        rename_i f' cs hf
        injection hc with hc
        injection hc with h1 h2
        subst h1 h2
        have hfv := hr.eval fo
        rw [hf] at hfv
        generalize hve : a.eval fo = fv at hfv
        cases hfv with
        | fn _ _ ws hvl hvr =>
          have hrun : (execOp a.eval o).run P w = .ok (.enter f' (c.args.map a.eval ++ ws)) w := by
            unfold isPlain at hp
            split at hp
            case h_2 => cases hp
            rename_i fn hfn
            simp at hp
            obtain ⟨hp1, hp2⟩ := hp
            have hb : ¬ fn.body = none := by intro hbb; simp [hbb] at hp2
            simp [execOp, hop, resolve, hcal, hve, Deferred.ofValue, invoke, callFunc, hfn, hp1, hb]
          rw [hrun]
          simp only [Oper.upon_enter]
          refine (hP ⟨b + ops.size, [], H⟩ (fun m hm => hpart.blk m k (by omega) (hblkOrd m (.inl (by rw [hmk]; exact hm)))) g w (c.args.map a.eval ++ ws) hS (fun q hq => by rcases hU q hq with h | ⟨i, h1, _, rfl⟩ <;> (show _ < b + ops.size; omega)) ?_ ?_).mono ?_
          · simp [hvl]
          · intro j y hy
            have hcs : (c.args.map a.eval).size = (c.args.toList.map (lkE fr)).length := by simp
            rw [List.getElem?_append] at hy
            split at hy
            · rename_i hj
              simp only [List.getElem?_map, Option.map_eq_some_iff] at hy
              obtain ⟨x, hx, rfl⟩ := hy
              have hj' : j < c.args.size := by simpa using hj
              have hxx : c.args[j] = x := by simpa [hj'] using hx
              have : (c.args.map a.eval ++ ws).getD j undef = a.eval x := by
                simp [Array.getElem?_append, hj', hxx]
              rw [this]
              exact hr.eval x
            · rename_i hj
              have hj' : ¬ j < c.args.size := by simpa using hj
              have := hvr _ y hy
              have e : (c.args.map a.eval ++ ws).getD j undef = ws.getD (j - (c.args.toList.map (lkE fr)).length) undef := by
                simp [Array.getElem?_append, hj']
              rw [e]
              exact this
          · rintro e w' ⟨r', v', S', g', rfl, h1, h2, h3, h4, rfl, rfl⟩
            simp only
            -- back to the names that were there
            have h2' : RS g' w' H := h2
            have hE' : Ext g w (g.back g') w' := ⟨fun _ h => h, fun _ _ => rfl, h1.fz, h1.keep, h1.os, h1.tape, h1.output, h1.size⟩
            have hsome : ∀ q, (H q).isSome → g.U q := fun q hq => by
              obtain ⟨z, hz⟩ := Option.isSome_iff_exists.1 hq
              exact (hS.ok q z hz).1
            have hS'' : RS (g.back g') w' H := ⟨fun nm z hz => ⟨(hS.ok nm z hz).1, (h2'.ok nm z hz).2.back (hS.ok nm z hz).2 h1.same (hS.ok nm z hz).1⟩,
              fun q m bb hq hm hbq hbm => h2'.inj q m bb hq hm (by rw [h1.same q (hsome q hq)]; exact hbq) (by rw [h1.same m (hsome m hm)]; exact hbm),
              fun q bb hq hb => h2'.notF q bb hq (by rw [h1.same q (hsome q hq)]; exact hb), h2'.ltF⟩
            refine ih _ (fsetO fr o.dst r') H (g.back g') w' _ hsz' hcl' hcount' ⟨?_, ?_⟩ (hE.trans hE') hS'' (hU' _ fun q h => .inl h) ((hr.mono hE').putO hdst (h4.noRef rfl hrn))
            · rw [← hvk]; exact hslot'
            · exact hblk' H (fun nm hnm => by rw [hmk] at hnm; simp at hnm) (fun nm _ => rfl)
      | fresh f args sz ds rs hg hc hp hF =>
        rw [← hguard] at hg
        rw [← hcall] at hc
        have hw := guardM_wanted hg hr
        rw [if_pos hw]
        left
        unfold Oper.wp
        unfold callOf at hc
        split at hc
        case h_2 => cases hc
        rename_i c hop
        split at hc
        case h_2 => cases hc
        rename_i fo hcal
        split at hc
        case h_2 => cases hc
        rename_i f' cs hf
        injection hc with hc
        injection hc with h1 h2
        subst h1 h2
        have hfv := hr.eval fo
        rw [hf] at hfv
        generalize hve : a.eval fo = fv at hfv
        cases hfv with
        | fn _ _ ws hvl hvr =>
          have hrun : (execOp a.eval o).run P w = .ok (.enter f' (c.args.map a.eval ++ ws)) w := by
            unfold isPlain at hp
            split at hp
            case h_2 => cases hp
            rename_i fn hfn
            simp at hp
            obtain ⟨hp1, hp2⟩ := hp
            have hb : ¬ fn.body = none := by intro hbb; simp [hbb] at hp2
            simp [execOp, hop, resolve, hcal, hve, Deferred.ofValue, invoke, callFunc, hfn, hp1, hb]
          rw [hrun]
          simp only [Oper.upon_enter]
          have hnU : ¬ g.U (b + k) := by
            intro hq
            rcases hU _ hq with h | ⟨i, h1, h2, h3⟩
            · omega
            · have : i = k := by omega
              rw [this, hkl'] at h2
              cases h2
          refine (fresh_rename (S := ⟨b + ops.size, [], H⟩) (q := b + k) (hF ⟨b + ops.size, [], H⟩ (fun m hm => hpart.blk m k (by omega) (hblkOrd m (.inl (by rw [hmk]; exact hm))))) (vals := c.args.map a.eval ++ ws) hS (fun q hq => by rcases hU q hq with h | ⟨i, h1, _, rfl⟩ <;> (show _ < b + ops.size; omega)) hnU ?_ ?_).mono ?_
          · simp [hvl]
          · intro j y hy
            have hcs : (c.args.map a.eval).size = (c.args.toList.map (lkE fr)).length := by simp
            rw [List.getElem?_append] at hy
            split at hy
            · rename_i hj
              simp only [List.getElem?_map, Option.map_eq_some_iff] at hy
              obtain ⟨x, hx, rfl⟩ := hy
              have hj' : j < c.args.size := by simpa using hj
              have hxx : c.args[j] = x := by simpa [hj'] using hx
              have : (c.args.map a.eval ++ ws).getD j undef = a.eval x := by
                simp [Array.getElem?_append, hj', hxx]
              rw [this]
              exact hr.eval x
            · rename_i hj
              have hj' : ¬ j < c.args.size := by simpa using hj
              have := hvr _ y hy
              have e : (c.args.map a.eval ++ ws).getD j undef = ws.getD (j - (c.args.toList.map (lkE fr)).length) undef := by
                simp [Array.getElem?_append, hj']
              rw [e]
              exact this
          · rintro e w' ⟨v', g', rfl, h1, h2, h3, h4⟩
            simp only
            have h2' : RS g' w' (hset H (b + k) (some (.row sz (ds.map V.d)))) := h2
            refine ih _ (fsetO fr o.dst (.ms (b + k) sz 0 ds.length)) _ g' w' _ hsz' hcl' hcount' ⟨?_, ?_⟩ (hE.trans h1) h2' (hU' _ h3) ((hr.mono h1).putO hdst h4)
            · rw [← hvk]; exact hslot'
            · refine hblk' _ (fun nm hnm => ?_) (fun nm hnm => ?_)
              · rw [hmk] at hnm
                simp only [List.mem_singleton] at hnm
                rw [hHk, hnm]
                simp [hset]
              · rw [hmk] at hnm
                simp only [List.mem_singleton] at hnm
                simp [hset, hnm]
      | op v ef hg hc hs =>
        rw [← hguard] at hg
        have hw := guardM_wanted hg hr
        rw [if_pos hw]
        left
        unfold Oper.wp
        have hfpm : ∀ nm, fpOf o.op (lkE (frs k)) = some nm → H nm = Hs k nm := fun nm hnm =>
          hpart.blk nm k (by omega) (hblkOrd nm (.inl (by rw [hmk, hnm]; simp)))
        have hs' : stepF P fz o (lkE fr) (blkOf H (fpOf o.op (lkE fr))) (b + k) = some (v, ef) := by
          rw [hfp, stepF_congr hops]
          have : blkOf H (fpOf o.op (lkE (frs k))) = blkOf (Hs k) (fpOf o.op (lkE (frs k))) := by
            cases hq : fpOf o.op (lkE (frs k)) with
            | none => rfl
            | some q => simp only [blkOf, Option.bind_some]; exact hfpm q hq
          rw [this]
          exact hs
        have hnU : ¬ g.U (b + k) := by
          intro h
          rcases hU _ h with h | ⟨i, _, h2, h3⟩
          · omega
          · have : i = k := by omega
            subst this
            rw [hkl'] at h2
            cases h2
        obtain ⟨w', g', hrun, h1, h2, h3⟩ := stepF_sound (P := P) (fun x => hr.eval x) o hs' hS hnU
        have hpart' : Part (ops := ops) (frs := frs) (Hs := Hs) (mm := mm) (fun i => (listed.setIfInBounds k true).getD i false = true) (fsetO fr o.dst v) (ef.on H) := by
          refine ⟨by rw [← hvk]; exact hslot', hblk' _ (fun nm hnm => ?_) (fun nm hnm => ?_)⟩
          · rw [hmk] at hnm
            rw [hHk]
            exact Eff.on_eq hnm
          · rw [hmk] at hnm
            exact Eff.on_ne hnm
        rcases hrun with ⟨v', hrun, hv'⟩ | ⟨hrun, hv⟩
        · rw [hrun]
          simp only [Oper.upon_value]
          exact ih _ _ _ g' w' _ hsz' hcl' hcount' hpart' (hE.trans h1) h2 (hU' g' h3) ((hr.mono h1).putO hdst hv')
        · rw [hrun]
          simp only [Oper.upon_skip]
          exact ih _ _ _ g' w' _ hsz' hcl' hcount' hpart' (hE.trans h1) h2 (hU' g' h3) ((hr.mono h1).putO hdst (by rw [hv]; exact .undef _))
    exact hdone _ _ _ rfl rfl rfl htr

theorem WpM.draw {P : Program} {n : Nat} {Q : Exit → Fr → St → Prop} {fr : Fr} {S : St} {id : Nat} {ops : Array Oper} (hm : P.follows .mixedOrders = true) (hslots : slotsOk ops = true) (hedges : edgesOk ops = true) {L : List (Nat × Nat)} (hL : unord ops = L) {fz : List Nat}
    (h : wpD P n fz ops L S.next ops.toList (Q .normal) fr S []) : WpM P n (.region id ops true) Q fr S := by
  intro g w a hi
  obtain ⟨frs, Hs, vs, mm, S', e1, e2, e3, e4, e5, e6, e7⟩ := wpD_tr ops.toList fr S [] h
  simp only [List.nil_append, Array.length_toList, List.length_nil, Nat.zero_add] at e3 e4 e5 e6 e7
  have hst : ∀ k o, ops[k]? = some o → dstOk n o.dst = true ∧ frs (k + 1) = fsetO (frs k) o.dst (vs k) ∧ TrStep P fz ops S.next k o (frs k) (Hs k) (vs k) (Hs (k + 1)) (mm k) := fun k o ho => e3 k o (by simpa using ho)
  have hE : Ext g w g { w with drawn := w.drawn + 1 } := ⟨fun _ h => h, fun _ _ => rfl, fun _ h => h, fun _ _ => rfl, rfl, rfl, rfl, Nat.le_refl _⟩
  have hi' : Inv n g { w with drawn := w.drawn + 1 } fr S a := ⟨hi.rs.ext hE (fun _ _ _ _ => rfl) (fun b hb => ⟨hi.rs.ltF b hb, fun q hq hbq => (hi.rs.notF q b hq hbq).1 hb⟩), hi.lt, hi.rf.mono hE⟩
  have hrep : ∀ i, (Array.replicate ops.size false).getD i false = false := fun i => by
    simp only [Array.getD_eq_getD_getElem?, Array.getElem?_replicate]
    split <;> rfl
  refine wp_region_any hm (drawn_sound (P := P) (n := n) (b := S.next) hst (metL_ok hL e4) hslots hedges ?_ ops.size _ fr S.get g _ a (by simp) ?_ ?_ ⟨?_, ?_⟩ hE hi'.rs (fun k hk => .inl (hi.lt k hk)) hi'.rf)
  · intro g' w' a' hE' hS' hU' hr'
    exact ⟨frs ops.size, S', g', hE', ⟨by rw [e6]; exact hS', fun k hk => by rw [e7]; exact hU' k hk, hr'⟩, e5⟩
  · intro k o ho hk e he hb
    simp only [hrep] at hk
    cases hk
  · refine Nat.le_trans (List.length_filter_le _ _) (by simp)
  · intro t p hp hall
    rw [← e1]
    refine (frs_same hst p 0 p (by omega) hp fun i x hx h1 h2 hd => ?_).symm
    have := (hall i x hx hd).2 h2
    simp only [hrep] at this
    cases this
  · intro nm p hp hall
    rw [← e2]
    refine (Hs_same hst p 0 p (by omega) hp fun i h1 h2 hm => ?_).symm
    have := (hall i (by omega) hm).2 h2
    simp only [hrep] at this
    cases this
end Go.Proofs.Ytjjmedgibcffhaa.M
/- Walking: frames as lists of slots, states as lists of blocks; rules for the walk. -/
namespace Go.Proofs.Ytjjmedgibcffhaa.M
open Go.RowKit
set_option linter.unusedVariables false
set_option linter.unusedSimpArgs false

/-- A frame by its slots. -/
def frOf : List (Nat × V) → Fr
  | [], _ => .undef
  | (d, v) :: l, t => if t = d then v else frOf l t
def frPut : List (Nat × V) → Nat → V → List (Nat × V)
  | [], d, v => [(d, v)]
  | (a, q) :: l, d, v => if d = a then (a, v) :: l else (a, q) :: frPut l d v
theorem fset_frOf (d : Nat) (v : V) : ∀ (l : List (Nat × V)), fset (frOf l) d v = frOf (frPut l d v)
  | [] => by funext t; simp [fset, frOf, frPut]
  | (a, q) :: l => by
    funext t
    simp only [frPut]
    split
    · rename_i h
      subst h
      simp only [fset, frOf]
      split <;> simp_all
    · rename_i h
      have ih := congrFun (fset_frOf d v l) t
      simp only [fset, frOf] at ih ⊢
      split
      · rename_i h2
        subst h2
        rw [if_neg h, ← ih]
        simp
      · rename_i h2
        split
        · rfl
        · rw [← ih, if_neg h2]
def frKeep (ks : List Nat) : List (Nat × V) → List (Nat × V)
  | [] => []
  | (a, q) :: l => bif memN ks a then (a, q) :: frKeep ks l else frKeep ks l
theorem frKeep_none (ks : List Nat) {t : Nat} (h : memN ks t = false) : ∀ (l : List (Nat × V)), frOf (frKeep ks l) t = .undef
  | [] => rfl
  | (a, q) :: l => by
    simp only [frKeep]
    cases hk : memN ks a with
    | true =>
      simp only [cond_true, frOf]
      split
      · rename_i h2
        rw [h2, hk] at h
        cases h
      · exact frKeep_none ks h l
    | false => exact frKeep_none ks h l
theorem frKeep_le (ks : List Nat) : ∀ (l : List (Nat × V)), FrLe (frOf l) (frOf (frKeep ks l))
  | [] => fun t => .inl rfl
  | (a, q) :: l => fun t => by
    have ih := frKeep_le ks l t
    simp only [frKeep]
    cases hk : memN ks a with
    | true =>
      simp only [cond_true, frOf]
      split
      · exact .inl rfl
      · exact ih
    | false =>
      simp only [cond_false, frOf]
      split
      · rename_i h
        subst h
        exact .inr (frKeep_none ks hk l)
      · exact ih
theorem frOf_at {d t : Nat} {v : V} {l : List (Nat × V)} : frOf ((d, v) :: l) t = if t = d then v else frOf l t := rfl
theorem frOf_nil {t : Nat} : frOf [] t = .undef := rfl

section
variable {P : Program} {n : Nat} {Q : Exit → Fr → St → Prop} {fr : Fr} {S : St}
/-- What holds, or holds of what is known less. -/
theorem WpM.weak {c : Code} (h : WpM P n c (fun e fr S => ∃ fr' S', FrLe fr fr' ∧ S.Le S' ∧ Q e fr' S') fr S) : WpM P n c Q fr S := by
  intro g w a hi
  refine wp_mono (h g w a hi) ?_
  rintro e a' w' ⟨fr', S', g', h1, h2, fr'', S'', h3, h4, h5⟩
  exact ⟨fr'', S'', g', h1, h2.less h4 h3, h5⟩
/-- A region, walked; of the slots those of ks are kept. -/
theorem WpM.reg (ks fz : List Nat) {id : Nat} {ops : Array Oper} (h : ∀ K : Fr → St → Prop, (∀ l l' S', frKeep ks l = l' → Q .normal (frOf l') S' → K (frOf l) S') → wpS P n fz ops ops.toList K fr S) : WpM P n (.region id ops false) Q fr S := by
  refine WpM.weak (WpM.region (h _ fun l l' S' hl hQ => ?_))
  exact ⟨_, S', hl ▸ frKeep_le ks l, St.Le.refl _, hQ⟩
/-- The same where the region comes to one end. -/
theorem WpM.regE (ks fz : List Nat) {id : Nat} {ops : Array Oper} {l l' : List (Nat × V)} {S' : St} (h : wpS P n fz ops ops.toList (fun f s => f = frOf l ∧ s = S') fr S) (hk : frKeep ks l = l') (hQ : Q .normal (frOf l') S') : WpM P n (.region id ops false) Q fr S := by
  have h1 : WpM P n (.region id ops false) (fun e f s => e = .normal ∧ f = frOf l ∧ s = S') fr S := WpM.region (Q := fun e f s => e = .normal ∧ f = frOf l ∧ s = S') (fz := fz) (by simpa using h)
  refine WpM.weak (h1.mono ?_)
  rintro e f s ⟨rfl, rfl, rfl⟩
  exact ⟨_, s, hk ▸ frKeep_le ks l, St.Le.refl _, hQ⟩
theorem WpM.drwE (ks fz : List Nat) {id : Nat} {ops : Array Oper} {l l' : List (Nat × V)} {S' : St} (hm : P.follows .mixedOrders = true) (hslots : slotsOk ops = true) (hedges : edgesOk ops = true) (L : List (Nat × Nat)) (hL : unord ops = L)
    (h : wpD P n fz ops L S.next ops.toList (fun f s => f = frOf l ∧ s = S') fr S []) (hk : frKeep ks l = l') (hQ : Q .normal (frOf l') S') : WpM P n (.region id ops true) Q fr S := by
  have h1 : WpM P n (.region id ops true) (fun e f s => e = .normal ∧ f = frOf l ∧ s = S') fr S := WpM.draw (Q := fun e f s => e = .normal ∧ f = frOf l ∧ s = S') hm hslots hedges hL (by simpa using h)
  refine WpM.weak (h1.mono ?_)
  rintro e f s ⟨rfl, rfl, rfl⟩
  exact ⟨_, s, hk ▸ frKeep_le ks l, St.Le.refl _, hQ⟩
theorem WpM.drw (ks fz : List Nat) {id : Nat} {ops : Array Oper} (hm : P.follows .mixedOrders = true) (hslots : slotsOk ops = true) (hedges : edgesOk ops = true) (L : List (Nat × Nat)) (hL : unord ops = L)
    (h : ∀ K : Fr → St → Prop, (∀ l l' S', frKeep ks l = l' → Q .normal (frOf l') S' → K (frOf l) S') → wpD P n fz ops L S.next ops.toList K fr S []) : WpM P n (.region id ops true) Q fr S := by
  refine WpM.weak (WpM.draw hm hslots hedges hL (h _ fun l l' S' hl hQ => ?_))
  exact ⟨_, S', hl ▸ frKeep_le ks l, St.Le.refl _, hQ⟩
end

section
variable {P : Program} {n : Nat} {Q : Exit → Fr → St → Prop} {fr : Fr} {S : St}
theorem WpM.condT {c : Operand} {x y : Code} (hc : lkE fr c = .d (.bool true)) (h : WpM P n x Q fr S) : WpM P n (.cond c x y) Q fr S := WpM.cond hc h
theorem WpM.condF {c : Operand} {x y : Code} (hc : lkE fr c = .d (.bool false)) (h : WpM P n y Q fr S) : WpM P n (.cond c x y) Q fr S := WpM.cond hc h
theorem thenM_exit {id : Nat} {K : Fr → St → Prop} (h : Q (.exit id) fr S) : thenM K Q (.exit id) fr S := h
theorem thenM_ret {K : Fr → St → Prop} (h : Q .ret fr S) : thenM K Q .ret fr S := h
theorem blockM_ret {id : Nat} (h : Q .ret fr S) : blockM id Q .ret fr S := h
theorem blockM_norm {id : Nat} (h : Q .normal fr S) : blockM id Q .normal fr S := h
theorem blockM_eq {id : Nat} (h : Q .normal fr S) : blockM id Q (.exit id) fr S := by simpa [blockM] using h
theorem blockM_ne {id id' : Nat} (hn : id' ≠ id) (h : Q (.exit id') fr S) : blockM id Q (.exit id') fr S := by simpa [blockM, hn] using h
/-- A round's end. -/
theorem round_end {α : Type} {I : α → Fr → St → Prop} {μ : α → Nat} {x x' : α} {fr' : Fr} {S' : St} (hS : S.Le S') (hf : FrLe fr fr') (hI : I x' fr' S') (hm : μ x' < μ x) :
    thenM (fun fr' S' => ∃ x' fr'' S'', S'.Le S'' ∧ FrLe fr' fr'' ∧ I x' fr'' S'' ∧ μ x' < μ x) Q .normal fr S := ⟨x', fr', S', hS, hf, hI, hm⟩
end
theorem frLe_frOf {fr : Fr} {l : List (Nat × V)} (h : ∀ p ∈ l, fr p.1 = p.2) : FrLe fr (frOf l) := by
  intro t
  have : ∀ l : List (Nat × V), (∀ p ∈ l, fr p.1 = p.2) → frOf l t = fr t ∨ frOf l t = .undef := by
    intro l
    induction l with
    | nil => exact fun _ => .inr rfl
    | cons p l ih =>
      intro h
      simp only [frOf]
      split
      · rename_i e
        subst e
        exact .inl (h p (by simp)).symm
      · exact ih fun q hq => h q (by simp [hq])
  exact this l h
theorem le_of {n n' : Nat} {l l' : List (Nat × Option Blk)} {H : Nat → Option Blk} (hn : n ≤ n') (h : ∀ m k, lget l' H m = some k → lget l H m = some k) : St.Le ⟨n, l, H⟩ ⟨n', l', H⟩ := ⟨hn, h⟩

section
variable {P : Program} {n : Nat} {fz : List Nat} {ops : Array Oper} {o : Oper} {rest : List Oper} {K : Fr → St → Prop} {l l' : List (Nat × V)} {S S' : St} {v : V} {ef : Eff}
theorem wpS_nil (h : K (frOf l) S) : wpS P n fz ops [] K (frOf l) S := h
theorem wpS_op (hd : dstOk n o.dst = true) (hg : guardM ops (frOf l) o = some true) (hc : callOf o (frOf l) = none) (hs : stepF P fz o (lkE (frOf l)) (blkOf S.get (fpOf o.op (lkE (frOf l)))) S.next = some (v, ef))
    (hf : fsetO (frOf l) o.dst v = frOf l') (hS : ({ ef.st S with next := S.next + 1 } : St) = S') (h : wpS P n fz ops rest K (frOf l') S') : wpS P n fz ops (o :: rest) K (frOf l) S := by
  simp only [wpS, hg, hc, hs]
  rw [hf, hS]
  exact ⟨hd, h⟩
theorem wpS_skip (hd : dstOk n o.dst = true) (hg : guardM ops (frOf l) o = some false) (hf : fsetO (frOf l) o.dst (.tup []) = frOf l') (h : wpS P n fz ops rest K (frOf l') S) : wpS P n fz ops (o :: rest) K (frOf l) S := by
  simp only [wpS, hg]
  rw [hf]
  exact ⟨hd, h⟩
theorem wpS_call {f : FuncId} {args : List V} {R : V → St → Prop} (hd : dstOk n o.dst = true) (hg : guardM ops (frOf l) o = some true) (hc : callOf o (frOf l) = some (f, args)) (hp : isPlain P f = true) (hC : CallM P f args S R)
    (h : ∀ r S', R r S' → wpS P n fz ops rest K (fsetO (frOf l) o.dst r) S') : wpS P n fz ops (o :: rest) K (frOf l) S := by
  simp only [wpS, hg, hc]
  exact ⟨hd, hp, hC.mono h⟩
/-- A guard, settled first. -/
theorem wpS_wit {r : Bool} (hg : guardM ops (frOf l) o = some r) (h : guardM ops (frOf l) o = some r → wpS P n fz ops (o :: rest) K (frOf l) S) : wpS P n fz ops (o :: rest) K (frOf l) S := h hg
theorem wpD_wit {L : List (Nat × Nat)} {b : Nat} {ms : List Met} {r : Bool} (hg : guardM ops (frOf l) o = some r) (h : guardM ops (frOf l) o = some r → wpD P n fz ops L b (o :: rest) K (frOf l) S ms) : wpD P n fz ops L b (o :: rest) K (frOf l) S ms := h hg
/-- A call that only computes, in one state. -/
theorem wpS_at {f : FuncId} {args : List V} (hd : dstOk n o.dst = true) (hg : guardM ops (frOf l) o = some true) (hc : callOf o (frOf l) = some (f, args)) (hp : isPlain P f = true) (hC : CallM P f args S fun r' S' => r' = v ∧ S' = S) (hf : fsetO (frOf l) o.dst v = frOf l')
    (h : wpS P n fz ops rest K (frOf l') S) : wpS P n fz ops (o :: rest) K (frOf l) S := by
  refine wpS_call hd hg hc hp hC ?_
  rintro r S' ⟨rfl, rfl⟩
  rw [hf]
  exact h
/-- A call that only computes. -/
theorem wpS_pure {f : FuncId} {args : List V} (hd : dstOk n o.dst = true) (hg : guardM ops (frOf l) o = some true) (hc : callOf o (frOf l) = some (f, args)) (hp : isPlain P f = true) (hC : PureC P f args v) (hf : fsetO (frOf l) o.dst v = frOf l')
    (h : wpS P n fz ops rest K (frOf l') S) : wpS P n fz ops (o :: rest) K (frOf l) S := by
  refine wpS_call hd hg hc hp (hC S) ?_
  rintro r S' ⟨rfl, rfl⟩
  rw [hf]
  exact h
variable {L : List (Nat × Nat)} {b : Nat} {ms : List Met}
theorem wpD_nil (hm : metL L ms) (h : K (frOf l) { S with next := b + ms.length }) : wpD P n fz ops L b [] K (frOf l) S ms := ⟨hm, h⟩
theorem wpD_op {m : Met} (hd : dstOk n o.dst = true) (hg : guardM ops (frOf l) o = some true) (hc : callOf o (frOf l) = none) (hs : stepF P fz o (lkE (frOf l)) (blkOf S.get (fpOf o.op (lkE (frOf l)))) (b + ms.length) = some (v, ef))
    (hf : fsetO (frOf l) o.dst v = frOf l') (hS : ef.st S = S') (hm : ((fpOf o.op (lkE (frOf l))).toList, ef.touch) = m) (h : wpD P n fz ops L b rest K (frOf l') S' (ms ++ [m])) : wpD P n fz ops L b (o :: rest) K (frOf l) S ms := by
  simp only [wpD, hg, hc, hs]
  rw [hf, hS, hm]
  exact ⟨hd, h⟩
theorem wpD_skip (hd : dstOk n o.dst = true) (hg : guardM ops (frOf l) o = some false) (hf : fsetO (frOf l) o.dst (.tup []) = frOf l') (h : wpD P n fz ops L b rest K (frOf l') S (ms ++ [([], [])])) : wpD P n fz ops L b (o :: rest) K (frOf l) S ms := by
  simp only [wpD, hg]
  rw [hf]
  exact ⟨hd, h⟩
theorem wpD_on {f : FuncId} {args : List V} (rs : List Nat) (hd : dstOk n o.dst = true) (hg : guardM ops (frOf l) o = some true) (hc : callOf o (frOf l) = some (f, args)) (hp : isPlain P f = true) (hr : v.noRef = true) (hC : PureOn P f args v rs S.get) (hf : fsetO (frOf l) o.dst v = frOf l')
    (h : wpD P n fz ops L b rest K (frOf l') S (ms ++ [(rs, [])])) : wpD P n fz ops L b (o :: rest) K (frOf l) S ms := by
  simp only [wpD, hg, hc]
  exact ⟨hd, hp, .inl ⟨v, rs, hr, hC, by rw [hf]; exact h⟩⟩
theorem wpD_pure {f : FuncId} {args : List V} (hd : dstOk n o.dst = true) (hg : guardM ops (frOf l) o = some true) (hc : callOf o (frOf l) = some (f, args)) (hp : isPlain P f = true) (hr : v.noRef = true) (hC : PureC P f args v) (hf : fsetO (frOf l) o.dst v = frOf l')
    (h : wpD P n fz ops L b rest K (frOf l') S (ms ++ [([], [])])) : wpD P n fz ops L b (o :: rest) K (frOf l) S ms := wpD_on [] hd hg hc hp hr (hC.on _) hf h
end
/-- Some slots of a frame. -/
def Sub (l : List (Nat × V)) : List (Nat × V) → Prop
  | [] => True
  | p :: ps => frOf l p.1 = p.2 ∧ Sub l ps
theorem frOf_eq {t : Nat} {v : V} {l : List (Nat × V)} : frOf ((t, v) :: l) t = v := by simp [frOf]
theorem frOf_ne {t d : Nat} {v x : V} {l : List (Nat × V)} (h : Nat.beq t d = false) (h2 : frOf l t = v) : frOf ((d, x) :: l) t = v := by
  have : t ≠ d := fun e => by subst e; simp at h
  simp [frOf, this, h2]
def keyIn : List (Nat × V) → Nat → Bool
  | [], _ => false
  | p :: ps, t => bif Nat.beq t p.1 then true else keyIn ps t
def opsIn (l0 : List (Nat × V)) : List Operand → Bool
  | [] => true
  | .tmp t :: xs => keyIn l0 t && opsIn l0 xs
  | _ :: xs => opsIn l0 xs
theorem Sub.at {l : List (Nat × V)} : ∀ {l0 : List (Nat × V)} {t : Nat}, Sub l l0 → keyIn l0 t = true → frOf l t = frOf l0 t
  | [], _, _, h => by cases h
  | (d, v) :: l0, t, h, hk => by
    simp only [keyIn] at hk
    by_cases e : t = d
    · subst e
      rw [frOf_eq]
      exact h.1
    · have hb : Nat.beq t d = false := by cases hq : Nat.beq t d with
        | false => rfl
        | true => exact absurd (Nat.eq_of_beq_eq_true hq) e
      rw [hb] at hk
      simp only [cond_false] at hk
      rw [h.2.at hk]
      simp [frOf, e]
theorem Sub.lk {l l0 : List (Nat × V)} (h : Sub l l0) : ∀ {xs : List Operand}, opsIn l0 xs = true → ∀ x ∈ xs, lkE (frOf l) x = lkE (frOf l0) x
  | [], _, _, hx => by cases hx
  | y :: xs, ho, x, hx => by
    rcases List.mem_cons.1 hx with rfl | hx2
    · cases x with
      | tmp t =>
        simp only [opsIn, Bool.and_eq_true] at ho
        exact h.at ho.1
      | _ => rfl
    · have ho2 : opsIn l0 xs = true := by
        cases y <;> simp only [opsIn, Bool.and_eq_true] at ho <;> first | exact ho.2 | exact ho
      exact h.lk ho2 x hx2
section
variable {P : Program} {n : Nat} {fz : List Nat} {ops : Array Oper} {o : Oper} {rest : List Oper} {K : Fr → St → Prop} {l l' l0 : List (Nat × V)} {S S' : St} {v : V} {ef : Eff}
theorem wpS_opR (hd : dstOk n o.dst = true) (hg : guardM ops (frOf l) o = some true) (hc : callOf o (frOf l) = none) (hsub : Sub l l0) (hin : opsIn l0 o.op.operands.toList = true)
    (hs : stepF P fz o (lkE (frOf l0)) (blkOf S.get (fpOf o.op (lkE (frOf l0)))) S.next = some (v, ef))
    (hf : fsetO (frOf l) o.dst v = frOf l') (hS : ({ ef.st S with next := S.next + 1 } : St) = S') (h : wpS P n fz ops rest K (frOf l') S') : wpS P n fz ops (o :: rest) K (frOf l) S := by
  have hlk : ∀ x ∈ o.op.operands, lkE (frOf l) x = lkE (frOf l0) x := fun x hx => hsub.lk hin x (by simpa using hx)
  refine wpS_op hd hg hc ?_ hf hS h
  rw [fpOf_congr hlk, stepF_congr hlk]
  exact hs
variable {L : List (Nat × Nat)} {b : Nat} {ms : List Met}
theorem wpD_opR {m : Met} (hd : dstOk n o.dst = true) (hg : guardM ops (frOf l) o = some true) (hc : callOf o (frOf l) = none) (hsub : Sub l l0) (hin : opsIn l0 o.op.operands.toList = true)
    (hs : stepF P fz o (lkE (frOf l0)) (blkOf S.get (fpOf o.op (lkE (frOf l0)))) (b + ms.length) = some (v, ef))
    (hf : fsetO (frOf l) o.dst v = frOf l') (hS : ef.st S = S') (hm : ((fpOf o.op (lkE (frOf l0))).toList, ef.touch) = m) (h : wpD P n fz ops L b rest K (frOf l') S' (ms ++ [m])) : wpD P n fz ops L b (o :: rest) K (frOf l) S ms := by
  have hlk : ∀ x ∈ o.op.operands, lkE (frOf l) x = lkE (frOf l0) x := fun x hx => hsub.lk hin x (by simpa using hx)
  refine wpD_op hd hg hc ?_ hf hS (by rw [fpOf_congr hlk]; exact hm) h
  rw [fpOf_congr hlk, stepF_congr hlk]
  exact hs
theorem guardM_at {j d : Nat} {want b r : Bool} (hgd : o.guard = some (j, want)) (hd : (ops[j]?).bind (·.dst) = some d) (hv : frOf l d = .d (.bool b)) (hb : (b == want) = r) : guardM ops (frOf l) o = some r := by
  simp only [guardM, hgd, hd, hv, hb]
theorem guardM_tup {j d : Nat} {want : Bool} (hgd : o.guard = some (j, want)) (hd : (ops[j]?).bind (·.dst) = some d) (hv : frOf l d = .tup []) : guardM ops (frOf l) o = some false := by
  simp only [guardM, hgd, hd, hv]
theorem callOf_eq {c : Call} {fo : Operand} {f : FuncId} {cs vs : List V} (ho : o.op = .call c) (hc : c.callee = .value fo) (hf : lkE (frOf l) fo = .fn f cs) (ha : c.args.toList.map (lkE (frOf l)) = vs) : callOf o (frOf l) = some (f, vs ++ cs) := by
  simp only [callOf, ho, hc, hf, ha]
theorem mlk_nil : ([] : List Operand).map (lkE (frOf l)) = [] := rfl
theorem mlk_tmp {t : Nat} {v : V} {xs : List Operand} {vs : List V} (h : frOf l t = v) (h2 : xs.map (lkE (frOf l)) = vs) : (Operand.tmp t :: xs).map (lkE (frOf l)) = v :: vs := by
  simp only [List.map_cons, lkE, h, h2]
theorem mlk_const {c : Value} {v : V} {xs : List Operand} {vs : List V} (h : ofConst c = v) (h2 : xs.map (lkE (frOf l)) = vs) : (Operand.const c :: xs).map (lkE (frOf l)) = v :: vs := by
  simp only [List.map_cons, lkE, h, h2]
theorem mlk_func {f : FuncId} {xs : List Operand} {vs : List V} (h2 : xs.map (lkE (frOf l)) = vs) : (Operand.func f :: xs).map (lkE (frOf l)) = V.fn f [] :: vs := by
  simp only [List.map_cons, lkE, h2]
/-- A new slot, or a slot anew. -/
theorem fput_nil {d : Nat} {v : V} : frPut [] d v = [(d, v)] := rfl
theorem fput_eq {d : Nat} {v x : V} {l : List (Nat × V)} : frPut ((d, x) :: l) d v = (d, v) :: l := by simp [frPut]
theorem fput_ne {a d : Nat} {v x : V} {l l2 : List (Nat × V)} (h : Nat.beq d a = false) (h2 : frPut l d v = l2) : frPut ((a, x) :: l) d v = (a, x) :: l2 := by
  have : d ≠ a := fun e => by subst e; simp at h
  simp [frPut, this, h2]
theorem fsetO_some {d : Nat} {v : V} {l l2 : List (Nat × V)} (h : frPut l d v = l2) : fsetO (frOf l) (some d) v = frOf l2 := by
  simp only [fsetO, fset_frOf, h]
theorem fsetO_none {v : V} {l : List (Nat × V)} : fsetO (frOf l) none v = frOf l := rfl
end
theorem allD_mapf {α : Type} (f : α → D) (l : List α) : allD (l.map fun x => V.d (f x)) = some (l.map f) := by
  rw [show (l.map fun x => V.d (f x)) = (l.map f).map V.d by simp, allD_map]
theorem okEl_int (k : IntKind) (n : Int) : okEl 1 (.int k n) = true := rfl
theorem okEl_bool (b : Bool) : okEl 1 (.bool b) = true := rfl
theorem okEl_str (b : ByteArray) : okEl 1 (.str b) = true := rfl
theorem okEl_sl (xs : List D) : okEl 1 (.sl xs) = true := rfl
theorem okEl_nil : okEl 1 .nil = true := rfl
theorem okEl_agg (sz : Nat) (xs : List D) : okEl sz (.agg xs) = (xs.length == sz && xs.all D.one) := rfl
theorem lput_eq {m : Nat} {q k : Option Blk} {l : List (Nat × Option Blk)} : lput ((m, q) :: l) m k = (m, k) :: l := by simp [lput]
theorem lput_ne {a m : Nat} {q k : Option Blk} {l : List (Nat × Option Blk)} (h : m ≠ a) : lput ((a, q) :: l) m k = (a, q) :: lput l m k := by simp [lput, h]
theorem lget_eq {m : Nat} {q : Option Blk} {l : List (Nat × Option Blk)} {H : Nat → Option Blk} : lget ((m, q) :: l) H m = q := by simp [lget]
theorem lget_ne {a m : Nat} {q : Option Blk} {l : List (Nat × Option Blk)} {H : Nat → Option Blk} (h : m ≠ a) : lget ((a, q) :: l) H m = lget l H m := by simp [lget, h]
theorem lget_nil {m : Nat} {H : Nat → Option Blk} : lget [] H m = H m := rfl
theorem lput_nil {m : Nat} {k : Option Blk} : lput [] m k = [(m, k)] := rfl
theorem st_get {m nx : Nat} {l : List (Nat × Option Blk)} {H : Nat → Option Blk} : St.get ⟨nx, l, H⟩ m = lget l H m := rfl
theorem st_set {m nx : Nat} {k : Option Blk} {l : List (Nat × Option Blk)} {H : Nat → Option Blk} : St.set ⟨nx, l, H⟩ m k = ⟨nx, lput l m k, H⟩ := rfl
theorem lget_old {n m : Nat} {H : Nat → Option Blk} (hm : m < n) : ∀ {l : List (Nat × Option Blk)}, (∀ p ∈ l, n ≤ p.1) → lget l H m = H m
  | [], _ => rfl
  | (a, q) :: l, h => by
    have h1 := h (a, q) (by simp)
    simp only at h1
    rw [lget_ne (by omega)]
    exact lget_old hm fun p hp => h p (by simp [hp])

/-- Arguments as slots. -/
def argL : Nat → List V → List (Nat × V)
  | _, [] => []
  | k, v :: vs => (k, v) :: argL (k + 1) vs
theorem argL_le (args : List V) : FrLe (argFr args) (frOf (argL 0 args)) := by
  have : ∀ (args : List V) (k : Nat) (fr : Fr), (∀ j v, args[j]? = some v → fr (k + j) = v) → FrLe fr (frOf (argL k args)) := by
    intro args
    induction args with
    | nil => exact fun k fr _ t => .inr rfl
    | cons v args ih =>
      intro k fr h t
      simp only [argL, frOf]
      split
      · rename_i e
        subst e
        exact .inl (by simpa using (h 0 v rfl).symm)
      · exact ih (k + 1) fr (fun j x hx => by rw [show k + 1 + j = k + (j + 1) by omega]; exact h (j + 1) x (by simpa using hx)) t
  refine this args 0 _ fun j v hj => ?_
  simp [argFr, List.getD, hj]
/-- All names from n on. -/
def Lo (n : Nat) (l : List (Nat × Option Blk)) : Prop := ∀ p ∈ l, n ≤ p.1
theorem lo_nil {n : Nat} : Lo n [] ↔ True := by simp [Lo]
theorem lo_cons {n a : Nat} {q : Option Blk} {l : List (Nat × Option Blk)} : Lo n ((a, q) :: l) ↔ n ≤ a ∧ Lo n l := by simp [Lo]
theorem lo_lput {n m : Nat} {k : Option Blk} : ∀ {l : List (Nat × Option Blk)}, n ≤ m → Lo n l → Lo n (lput l m k)
  | [], hm, _ => by simpa [lput, Lo] using hm
  | (a, q) :: l, hm, h => by
    obtain ⟨h1, h2⟩ := lo_cons.1 h
    simp only [lput]
    split
    · exact lo_cons.2 ⟨h1, h2⟩
    · exact lo_cons.2 ⟨h1, lo_lput hm h2⟩
theorem lget_lput_eq {l : List (Nat × Option Blk)} {H : Nat → Option Blk} {m : Nat} {k : Option Blk} : lget (lput l m k) H m = k := by rw [lget_lput]; simp [hset]
theorem lget_lput_ne {l : List (Nat × Option Blk)} {H : Nat → Option Blk} {m q : Nat} {k : Option Blk} (h : q ≠ m) : lget (lput l m k) H q = lget l H q := by rw [lget_lput]; simp [hset, h]
theorem le_cut {n0 n n' : Nat} {l l' : List (Nat × Option Blk)} {H : Nat → Option Blk} (hH : ∀ m k, H m = some k → m < n0) (hlo : Lo n0 l) (hn : n ≤ n') (h : ∀ p ∈ l', ∀ k, p.2 = some k → lget l H p.1 = some k) : St.Le ⟨n, l, H⟩ ⟨n', l', H⟩ := by
  refine ⟨hn, fun m k hk0 => ?_⟩
  have : ∀ l' : List (Nat × Option Blk), (∀ p ∈ l', ∀ k, p.2 = some k → lget l H p.1 = some k) → lget l' H m = some k → lget l H m = some k := by
    intro l'
    induction l' with
    | nil =>
      intro _ hk
      simp only [lget] at hk
      rw [lget_old (hH m k hk) hlo]
      exact hk
    | cons p l' ih =>
      intro h hk
      simp only [lget] at hk
      split at hk
      · rename_i e
        have := h p (by simp) k hk
        rw [← e] at this
        exact this
      · exact ih (fun q hq => h q (by simp [hq])) hk
  exact this l' h hk0
/-- The start of a function: no block of its own yet. -/
theorem CallM.start {P : Program} {f n : Nat} {fn : Func} {c : Code} {args : List V} {S : St} {R : V → St → Prop} (hf : P.funcs[f]? = some fn) (hb : fn.body = some c) (hn : fn.ntmps = n) (hl : args.length ≤ n) {l : List (Nat × V)} (hl0 : argL 0 args = l)
    (h : (∀ m k, S.get m = some k → m < S.next) → WpM P n c (fun e fr S' => (e = .normal ∨ e = .ret) ∧ Upd n fr S' fun fr S' => ∃ r, resV P fr S' fn.results.toList = some r ∧ R r S') (frOf l) ⟨S.next, [], S.get⟩) : CallM P f args S R := by
  intro g w vals h1 h2 h3 h4
  have h' : CallM P f args ⟨S.next, [], S.get⟩ R := CallM.of hf hb hn hl (WpM.less (St.Le.refl _) (hl0 ▸ argL_le args) (h fun m k hk => h2 m (h1.ok m k hk).1))
  exact h' g w vals h1 h2 h3 h4

theorem CallM.pure' {P : Program} {f : FuncId} {args : List V} {S : St} {r : V} (hr : r.noRef = true) (h : CallM P f args S fun r' S' => r' = r ∧ ∀ m k, m < S.next → S.get m = some k → S'.get m = some k) : CallM P f args S fun r' S' => r' = r ∧ S' = S := by
  intro g w vals h1 h2 h3 h4
  have := CallM.pure hr (P := P) (f := f) (args := args) (S := S) (fun g w vals h1 h2 h3 h4 => (h g w vals h1 h2 h3 h4).mono fun e w' ⟨r, v, S', g', e1, e2, e3, e4, e5, e6⟩ => ⟨r, v, { S' with l := [], H := fun m => if m < S.next then S'.get m else none }, g', e1, e2, e3.less (fun m k hk => by
    simp only [St.get, lget] at hk ⊢
    split at hk
    · exact hk
    · cases hk), e4, e5, e6.1, fun m k hk => by
      have hlt := h2 m (h1.ok m k hk).1
      simp only [St.get, lget, if_pos hlt] at hk ⊢
      exact e6.2 m k hlt hk⟩)
  exact this g w vals h1 h2 h3 h4

/-- A function that only computes: from its body. -/
theorem PureC.of {P : Program} {f n : Nat} {fn : Func} {c : Code} {args : List V} {r : V} (hf : P.funcs[f]? = some fn) (hb : fn.body = some c) (hn : fn.ntmps = n) (hl : args.length ≤ n) {l : List (Nat × V)} (hl0 : argL 0 args = l) (hr : r.noRef = true)
    (h : ∀ (n0 : Nat) (H : Nat → Option Blk), (∀ m k, H m = some k → m < n0) → WpM P n c (fun e fr S' => (e = .normal ∨ e = .ret) ∧ Upd n fr S' fun fr S' => resV P fr S' fn.results.toList = some r ∧ S'.H = H ∧ Lo n0 S'.l) (frOf l) ⟨n0, [], H⟩) : PureC P f args r := by
  intro S
  refine CallM.pure' hr (CallM.start hf hb hn hl hl0 fun hH => ((h S.next S.get hH).mono ?_))
  rintro e fr S' ⟨h1, h2⟩
  refine ⟨h1, h2.mono ?_⟩
  rintro fr S'' ⟨h3, h4, h5⟩
  refine ⟨r, h3, rfl, fun m k hm hk => ?_⟩
  unfold St.get at hk ⊢
  rw [lget_old hm h5, h4]
  exact hk
/-- What a function answers in one state, which it leaves as it was. -/
def PureS (P : Program) (f : FuncId) (args : List V) (r : V) (S : St) : Prop := CallM P f args S fun r' S' => r' = r ∧ S' = S
theorem PureC.at_ {P : Program} {f : FuncId} {args : List V} {r : V} (h : PureC P f args r) (S : St) : PureS P f args r S := h S
theorem PureS.of {P : Program} {f n : Nat} {fn : Func} {c : Code} {args : List V} {r : V} {S : St} (hf : P.funcs[f]? = some fn) (hb : fn.body = some c) (hn : fn.ntmps = n) (hl : args.length ≤ n) {l : List (Nat × V)} (hl0 : argL 0 args = l) (hr : r.noRef = true)
    (h : ∀ (n0 : Nat) (H : Nat → Option Blk), S.get = H → (∀ m k, H m = some k → m < n0) → WpM P n c (fun e fr S' => (e = .normal ∨ e = .ret) ∧ Upd n fr S' fun fr S' => resV P fr S' fn.results.toList = some r ∧ S'.H = H ∧ Lo n0 S'.l) (frOf l) ⟨n0, [], H⟩) : PureS P f args r S := by
  refine CallM.pure' hr (CallM.start hf hb hn hl hl0 fun hH => ((h S.next S.get rfl hH).mono ?_))
  rintro e fr S' ⟨h1, h2⟩
  refine ⟨h1, h2.mono ?_⟩
  rintro fr S'' ⟨h3, h4, h5⟩
  refine ⟨r, h3, rfl, fun m k hm hk => ?_⟩
  unfold St.get at hk ⊢
  rw [lget_old hm h5, h4]
  exact hk
end Go.Proofs.Ytjjmedgibcffhaa.M
