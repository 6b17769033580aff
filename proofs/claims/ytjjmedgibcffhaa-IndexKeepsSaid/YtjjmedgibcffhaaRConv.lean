/- Events that come in as pure data, and pure data as the older kinds of data. -/
import Derived.Test.YtjjmedgibcffhaaRMd
import Derived.Test.YtjjmedgibcffhaaRCopy
import Derived.Test.YtjjmedgibcffhaaRKb
namespace Go.Proofs.Ytjjmedgibcffhaa
open Go.RowKit Go.MapKept M
set_option linter.unusedSimpArgs false
set_option linter.unusedVariables false

def CallOk (c : CallD) : Prop := IntOk .i64 c.kind ∧ c.key.size ≤ 140737488351232 ∧ IntOk .i64 c.arg ∧ SlOk (IntOk .i64) 8 c.vals
def EventOk (e : EventD) : Prop := IntOk .i64 e.proc ∧ IntOk .i64 e.kind ∧ SlOk CallOk 64 e.calls
set_option maxRecDepth 100000 in
theorem opensD_call : OpensD encCall CallOk Try.prog 67 := by
  intro H enc w base spare held fuel cs x h hz
  obtain ⟨hl, hf⟩ := M.opens_field Try.underlying67 h hz
  have hl5 : cs.length = 5 := hl.trans (by kernel_rfl)
  obtain ⟨c0, c1, c2, c3, c4, rfl⟩ := list5 hl5
  obtain ⟨m0, y0, h0, z0⟩ := hf 0 3 0 1 rfl (by kernel_rfl)
  obtain ⟨m1, y1, h1, z1⟩ := hf 1 9 1 1 rfl (by kernel_rfl)
  obtain ⟨m2, y2, h2, z2⟩ := hf 2 2 2 1 rfl (by kernel_rfl)
  obtain ⟨m3, y3, h3, z3⟩ := hf 3 4 3 1 rfl (by kernel_rfl)
  obtain ⟨m4, y4, h4, z4⟩ := hf 4 44 4 1 rfl (by kernel_rfl)
  obtain ⟨a0, k0, v0⟩ := opensD_int Try.underlying3 h0 z0
  obtain ⟨a1, k1, v1⟩ := opensD_str Try.underlying9 h1 z1
  obtain ⟨a2, k2, v2⟩ := opensD_int Try.underlying2 h2 z2
  obtain ⟨a3, k3, v3⟩ := opensD_bool Try.underlying4 h3 z3
  obtain ⟨a4, k4, v4⟩ := opensD_sl (sz := 1) (by_ := 8) Try.underlying44 (opensD_int Try.underlying2) (by kernel_rfl) (by kernel_rfl) (by decide) (fun _ => rfl) h4 z4
  exact ⟨⟨a0, a1, a2, a3, a4⟩, cells_agg (.cons (CellsOf.val k0 rfl) (.cons (CellsOf.val k1 rfl) (.cons (CellsOf.val k2 rfl) (.cons (CellsOf.val k3 rfl) (.cons (CellsOf.val k4 rfl) .nil))))), v0, v1, v2, v4⟩
set_option maxRecDepth 100000 in
theorem opensD_event : OpensD encEvent EventOk Try.prog 24 := by
  intro H enc w base spare held fuel cs x h hz
  obtain ⟨hl, hf⟩ := M.opens_field Try.underlying24 h hz
  have hl3 : cs.length = 3 := hl.trans (by kernel_rfl)
  obtain ⟨c0, c1, c2, rfl⟩ := list3 hl3
  obtain ⟨m0, y0, h0, z0⟩ := hf 0 2 0 1 rfl (by kernel_rfl)
  obtain ⟨m1, y1, h1, z1⟩ := hf 1 3 1 1 rfl (by kernel_rfl)
  obtain ⟨m2, y2, h2, z2⟩ := hf 2 22 2 1 rfl (by kernel_rfl)
  obtain ⟨a0, k0, v0⟩ := opensD_int Try.underlying2 h0 z0
  obtain ⟨a1, k1, v1⟩ := opensD_int Try.underlying3 h1 z1
  obtain ⟨a2, k2, v2⟩ := opensD_sl (sz := 5) (by_ := 64) Try.underlying22 opensD_call (by kernel_rfl) (by kernel_rfl) (by decide) (fun _ => rfl) h2 z2
  exact ⟨⟨a0, a1, a2⟩, cells_agg (.cons (CellsOf.val k0 rfl) (.cons (CellsOf.val k1 rfl) (.cons (CellsOf.val k2 rfl) .nil))), v0, v1, v2⟩
set_option maxRecDepth 100000 in
theorem opensD_events : OpensD (fun l : List EventD => D.sl (l.map encEvent)) (SlOk EventOk 40) Try.prog 27 := by
  intro H enc w base spare held fuel cs x h hz
  exact opensD_sl (sz := 3) (by_ := 40) Try.underlying27 opensD_event (by kernel_rfl) (by kernel_rfl) (by decide) (fun _ => rfl) h hz

/-- Pure data as the older kinds of data. -/
def Conv {α : Type} (t : Ty α) (en : α → D) (B : α → Prop) : Prop := ∀ {F : Nat → Prop} {w : World} {x : α} {cs : List Value}, CellsOf F w (en x) cs → B x → t.K F w cs x
theorem conv_sl {α : Type} {t : Ty α} {en : α → D} {B : α → Prop} (hc : Conv t en B) (hen : ∀ a, (en a).cells.length = t.sz) {F : Nat → Prop} {w : World} {xs : List α} {v : Value}
    (h : RD F w (.sl (xs.map en)) v) (hb : SlOk B t.bytes xs) : ∃ A c, v = .slice A xs.length c ∧ t.Sl F w A xs ∧ xs.length ≤ c := by
  generalize hl : xs.map en = l at h
  cases h with
  | slNil a c =>
    have : xs = [] := by simpa using hl
    subst this
    exact ⟨a, c, rfl, Ty.Sl.nil _ _ _ _, Nat.zero_le _⟩
  | sl _ b o c sz u hF hcap h1 h2 h3 =>
    subst hl
    have hlen : (xs.map en).length = xs.length := by simp
    refine ⟨some ⟨b, o, none⟩, c, by rw [hlen], ⟨hb.1, .inr ⟨b, o, rfl, hF, fun i x hi => ?_⟩⟩, by omega⟩
    have hget : (xs.map en)[i]? = some (en x) := by simp [hi]
    have hsz : sz = t.sz := by rw [← h1 i _ hget]; exact hen x
    subst hsz
    refine ⟨(List.range t.sz).map (u i), hc ⟨by simp [hen], fun j y hy => ?_⟩ (hb.2 x (List.mem_of_getElem? hi)), fun j v hv => ?_⟩
    · have hj : j < t.sz := by rw [← hen x]; exact (List.getElem?_eq_some_iff.1 hy).1
      have e : ((List.range t.sz).map (u i)).getD j undef = u i j := by simp [List.getD, hj]
      rw [e]
      exact h3 i j _ y hget hy
    · have hj : j < t.sz := by have := (List.getElem?_eq_some_iff.1 hv).1; simpa using this
      have e : u i j = v := by simpa [hj] using hv
      subst e
      have hj' : j < (en x).cells.length := by rw [hen]; exact hj
      exact h2 i j _ (en x).cells[j] hget (by simp [hj'])
theorem conv_int {k : IntKind} : Conv (Ty.int k) (D.int k) (IntOk k) := by
  intro F w x cs h _
  obtain ⟨c, rfl, h'⟩ := h.one rfl
  cases h'
  rfl
theorem conv_call : Conv Ty.call encCall CallOk := by
  intro F w x cs h hB
  obtain ⟨h1, h2⟩ := h
  obtain ⟨c0, c1, c2, c3, c4, rfl⟩ := list5 h1
  have r0 := h2 0 _ rfl
  have r1 := h2 1 _ rfl
  have r2 := h2 2 _ rfl
  have r3 := h2 3 _ rfl
  have r4 := h2 4 _ rfl
  simp only [List.getD_cons_zero, List.getD_cons_succ] at r0 r1 r2 r3 r4
  obtain ⟨A, c, rfl, hs, _⟩ := conv_sl (t := Ty.int .i64) conv_int (fun _ => rfl) r4 hB.2.2.2
  cases r0
  cases r1
  cases r2
  cases r3
  exact ⟨A, c, rfl, hs⟩
theorem conv_event : Conv Ty.event encEvent EventOk := by
  intro F w x cs h hB
  obtain ⟨h1, h2⟩ := h
  obtain ⟨c0, c1, c2, rfl⟩ := list3 h1
  have r0 := h2 0 _ rfl
  have r1 := h2 1 _ rfl
  have r2 := h2 2 _ rfl
  simp only [List.getD_cons_zero, List.getD_cons_succ] at r0 r1 r2
  obtain ⟨A, c, rfl, hs, _⟩ := conv_sl (t := Ty.call) conv_call (fun _ => rfl) r2 hB.2.2
  cases r0
  cases r1
  exact ⟨A, c, rfl, hs⟩
theorem conv_events {F : Nat → Prop} {w : World} {xs : List EventD} {v : Value} (h : RD F w (.sl (xs.map encEvent)) v) (hb : SlOk EventOk 40 xs) : ∃ A c, v = .slice A xs.length c ∧ Ty.event.Sl F w A xs ∧ xs.length ≤ c :=
  conv_sl (t := Ty.event) conv_event (fun _ => rfl) h hb
end Go.Proofs.Ytjjmedgibcffhaa
