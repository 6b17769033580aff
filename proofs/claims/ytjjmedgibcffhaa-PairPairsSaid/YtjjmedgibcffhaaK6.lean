/- Append, where the world's size is spelled otherwise; small things for later walks. -/
import Derived.Test.YtjjmedgibcffhaaK3
namespace Go.Proofs.Ytjjmedgibcffhaa
open Go.RowKit Go.MapKept
section
variable {P : Program} {ops : Array Oper} {rest : List Oper} {o : Oper} {a : Act} {Q : Exit → Act → World → Prop} {α : Type}
theorem wp_append_at {enc : α → List Value} {sz : Nat} (hsz : ∀ x, (enc x).length = sz) (hone : ∀ x, ∀ u ∈ enc x, u.oneCell' = true) {W : World} (base : Nat) (hgd : o.guard = none) (s x : Operand) (t e : TypeId) (z : Value) (bytes : Nat)
    (ho : o.op = .call { callee := .builtin .append, args := #[s, x], argTypes := #[t, t] })
    (ht : P.underlying t = some (.slice e)) (hinfo : (P.info? e).map (fun i => (i.zero, i.size, i.bytes)) = some (some z, sz, bytes)) (hz : z.cells.size = sz) (hs0 : 0 < sz) (hb0 : 0 < bytes)
    (v : Value) (xs : List α) (y : α) (q : Nat) (hs : a.eval s = v) (hx : a.eval x = .slice (some ⟨q, 0, none⟩) 1 1) (hq : W.heap.size = q)
    (HO : W.ownsRow base e sz v xs.length (xs.flatMap enc)) (hbase : base ≤ W.heap.size) (hl : (xs.length + 1) * bytes ≤ 140737488355328)
    (h : ∀ v1 w1, w1.ownsRow base e sz v1 (xs ++ [y]).length ((xs ++ [y]).flatMap enc) → Keep (fun k => v.ownBlock = some k) W w1 → (v1.ownBlock = v.ownBlock ∨ ∃ b, v1.ownBlock = some b ∧ W.heap.size ≤ b) → W.heap.size < w1.heap.size → wpList P ops Q rest (a.put o.dst v1) w1) :
    wpList P ops Q (o :: rest) a (W.alloc (.cells (enc y).toArray e)) := by
  subst hq
  exact wp_append hsz hone base hgd s x t e z bytes ho ht hinfo hz hs0 hb0 v xs y hs hx HO hbase hl h
end
/-- What a callee that only makes memory leaves of an own row. -/
theorem own_below {w w' : World} {base n : Nat} {e : TypeId} {sz : Nat} {v : Value} {xs : List Value} (h : w.ownsRow base e sz v n xs) (hb : Below w.heap.size w w') : w'.ownsRow base e sz v n xs := own_keep (S := fun _ => False) h (Keep.of_below hb) (fun _ _ => id)
/-! The laws at guarded operations. -/
section
variable {κ : Type} {P : Program} {kt : TypeId} {ops : Array Oper} {rest : List Oper} {o : Oper} {a : Act} {Q : Exit → Act → World → Prop} {w : World}
theorem wp_lookup1_g (K : KeyTy κ P kt) {b : Nat} {f : κ → Option Value} (h : MapAt K w b f) (hw : Region.wanted o (yielded ops a.tmps) = true) (m x : Operand) (t : TypeId) (hop : o.op = Op.lookup t m x false) {et : TypeId} (ht : P.underlying t = some (.map kt et))
    {z : Value} (hz : (zeroValue et).run P w = .ok z w) (k : κ) (hm : a.eval m = .map (some b)) (hx : a.eval x = K.enc k)
    (hK : wpList P ops Q rest (a.put o.dst ((f k).getD z)) w) : wpList P ops Q (o :: rest) a w := by
  refine wpList_step fun K' hK' => ?_
  rw [if_pos hw]
  unfold Oper.wp
  simp [execOp, hop, hm, hx, h.run_lookup1 ht hz k, Result.andThen]
  exact hK' _ _ hK
end
end Go.Proofs.Ytjjmedgibcffhaa
