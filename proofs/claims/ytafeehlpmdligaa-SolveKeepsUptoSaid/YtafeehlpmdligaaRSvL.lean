/- slices.SortFunc, laid. -/
import Derived.Shelf.SlSortCmp.Whole1
import Derived.Shelf.SlSortCmp.NoneTotal
import Derived.Ground.SlsfProg
import Derived.WalkKit
import Derived.WalkSpells
import Derived.WalkLawsBesides
import Derived.Deep.QuietTactic
import Derived.BigQuiet
import Derived.Test.YtafeehlpmdligaaRSvK
namespace Go.Proofs.Ytafeehlpmdligaa
open Go.Shelf Go.RowKit Go.Lib Go.Sort
set_option linter.unusedSimpArgs false
set_option linter.unusedVariables false
def sortLaid_ren : Go.Shelf.Ren := ⟨fun | 6 => 79 | 15 => 82 | 14 => 81 | 28 => 91 | 29 => 92 | 20 => 83 | 21 => 84 | 22 => 85 | 23 => 86 | 24 => 87 | 25 => 88 | 26 => 89 | 27 => 90 | 46 => 93 | 47 => 94 | 48 => 95 | 49 => 96 | 50 => 97 | 57 => 98 | n => n, fun | 22 => 35 | 24 => 3 | 25 => 97 | 3 => 3 | 39 => 100 | 0 => 0 | 53 => 110 | 55 => 112 | 4 => 4 | 46 => 103 | 45 => 102 | 50 => 107 | 5 => 5 | 9 => 9 | 66 => 113 | 70 => 117 | 76 => 119 | 77 => 93 | n => n, fun | n => n⟩
theorem sortLaid : Go.Proofs.SlLaysF.n6 Try.prog sortLaid_ren := {
  mixed := by kernel_rfl
  f6 := ⟨Try.f79.name, by decide, Try.func79.trans (congrArg some (by kernel_rfl))⟩
  f14 := ⟨Try.f81.name, by decide, Try.func81.trans (congrArg some (by kernel_rfl))⟩
  f15 := Try.func82.trans (congrArg some (by kernel_rfl))
  f20 := ⟨Try.f83.name, by decide, Try.func83.trans (congrArg some (by kernel_rfl))⟩
  f21 := ⟨Try.f84.name, by decide, Try.func84.trans (congrArg some (by kernel_rfl))⟩
  f22 := ⟨Try.f85.name, by decide, Try.func85.trans (congrArg some (by kernel_rfl))⟩
  f23 := ⟨Try.f86.name, by decide, Try.func86.trans (congrArg some (by kernel_rfl))⟩
  f24 := ⟨Try.f87.name, by decide, Try.func87.trans (congrArg some (by kernel_rfl))⟩
  f25 := ⟨Try.f88.name, by decide, Try.func88.trans (congrArg some (by kernel_rfl))⟩
  f26 := ⟨Try.f89.name, by decide, Try.func89.trans (congrArg some (by kernel_rfl))⟩
  f27 := ⟨Try.f90.name, by decide, Try.func90.trans (congrArg some (by kernel_rfl))⟩
  f28 := Try.func91.trans (congrArg some (by kernel_rfl))
  f29 := Try.func92.trans (congrArg some (by kernel_rfl))
  f46 := ⟨Try.f93.name, by decide, Try.func93.trans (congrArg some (by kernel_rfl))⟩
  f47 := Try.func94.trans (congrArg some (by kernel_rfl))
  f48 := Try.func95.trans (congrArg some (by kernel_rfl))
  f49 := ⟨Try.f96.name, by decide, Try.func96.trans (congrArg some (by kernel_rfl))⟩
  f50 := ⟨Try.f97.name, by decide, Try.func97.trans (congrArg some (by kernel_rfl))⟩
  f57 := ⟨Try.f98.name, by decide, Try.func98.trans (congrArg some (by kernel_rfl))⟩
  t0 := Try.underlying0
  a0 := Try.isAgg0
  z0 := Try.sizeOf0
  v0 := Try.zeroValue0
  t3 := Try.underlying3
  a3 := Try.isAgg3
  z3 := Try.sizeOf3
  v3 := Try.zeroValue3
  t4 := Try.underlying4
  a4 := Try.isAgg4
  z4 := Try.sizeOf4
  v4 := Try.zeroValue4
  t5 := Try.underlying5
  a5 := Try.isAgg5
  z5 := Try.sizeOf5
  v5 := Try.zeroValue5
  t9 := Try.underlying9
  a9 := Try.isAgg9
  z9 := Try.sizeOf9
  v9 := Try.zeroValue9
  t22 := Try.underlying35
  a22 := Try.isAgg35
  z22 := Try.sizeOf35
  v22 := Try.zeroValue35
  a24 := Try.isAgg3
  z24 := Try.sizeOf3
  t25 := Try.underlying97
  a25 := Try.isAgg97
  z25 := Try.sizeOf97
  v25 := Try.zeroValue97
  t39 := Try.underlying100
  a39 := Try.isAgg100
  z39 := Try.sizeOf100
  v39 := Try.zeroValue100
  t45 := Try.underlying102
  a45 := Try.isAgg102
  z45 := Try.sizeOf102
  v45 := Try.zeroValue102
  t46 := Try.underlying103
  a46 := Try.isAgg103
  z46 := Try.sizeOf103
  v46 := Try.zeroValue103
  t50 := Try.underlying107
  a50 := Try.isAgg107
  z50 := Try.sizeOf107
  v50 := Try.zeroValue107
  t53 := Try.underlying110
  a53 := Try.isAgg110
  z53 := Try.sizeOf110
  v53 := Try.zeroValue110
  t55 := Try.underlying112
  a55 := Try.isAgg112
  z55 := Try.sizeOf112
  v55 := Try.zeroValue112
  t66 := Try.underlying113
  a66 := Try.isAgg113
  z66 := Try.sizeOf113
  v66 := Try.zeroValue113
  t70 := Try.underlying117
  a70 := Try.isAgg117
  z70 := Try.sizeOf117
  v70 := Try.zeroValue117
  t76 := Try.underlying119
  a76 := Try.isAgg119
  z76 := Try.sizeOf119
  v76 := Try.zeroValue119
  t77 := Try.underlying93
  a77 := Try.isAgg93
  z77 := Try.sizeOf93
  v77 := Try.zeroValue93 }
theorem abs72k (x : Int) (h : -1000000 ≤ x ∧ x ≤ 1000000) (W : World) : Calls Try.prog 72 #[.int .i64 x] W fun e w' => e = .returned (.int .i64 x.natAbs) ∧ w' = W := by
  have e : max x (-x) = (x.natAbs : Int) := by omega
  go_enter Try.func72, Try.ntmps72
  go_wp2
  all_goals go_ret
  exact ⟨by simp [e], rfl⟩
set_option maxHeartbeats 8000000 in
set_option maxRecDepth 100000 in
theorem closure80 (x y dx dy : Int) (N c ax ay : Nat) (bt sp nd p : Nat) (W : World) (hx : -1000000 ≤ x ∧ x ≤ 1000000) (hy : -1000000 ≤ y ∧ y ≤ 1000000) (hax : x.natAbs = ax) (hay : y.natAbs = ay) (hxn : (ax : Int) < N) (hyn : (ay : Int) < N) (hb : W.cell? ⟨bt, 0, none⟩ = some (.pointer (some ⟨sp, 0, none⟩))) (hs : W.cell? ⟨sp, 5, none⟩ = some (.slice (some ⟨nd, p, none⟩) N c))
    (h1 : W.cell? ⟨nd, p + ax, none⟩ = some (.int .i64 dx)) (h2 : W.cell? ⟨nd, p + ay, none⟩ = some (.int .i64 dy)) (hdx : 0 ≤ dx ∧ dx ≤ 5000) (hdy : 0 ≤ dy ∧ dy ≤ 5000) : Calls Try.prog 80 #[.int .i64 x, .int .i64 y, .pointer (some ⟨bt, 0, none⟩)] W fun e w' => e = .returned (.int .i64 (dy - dx)) ∧ ∃ q, w' = W.drewN q := by
  have q1 := fun w => abs72k x hx w
  have q2 := fun w => abs72k y hy w
  rw [hax] at q1
  rw [hay] at q2
  have hsub : IntKind.i64.wrap (dy - dx) = dy - dx := by rw [IntKind.wrap_i64]; omega
  go_enter Try.func80, Try.ntmps80
  go_wp2_with fail
  go_quiet (((go_at_call 72; first | exact Calls.quiet_of_same (q1 _) | exact Calls.quiet_of_same (q2 _))))
  go_wp2_with fail
  all_goals go_ret
  exact ⟨by first | rfl | simp, _, rfl⟩
theorem sw_heap {α : Type} [Inhabited α] (en : α → Value) (w : World) (blk off m : Nat) (dk : Array α) (os : Array Obj) {k : Nat} (hk : k < w.heap.size) : (sortWorld en w blk off m dk os).heap[k]? = if k = blk then (w.heap[k]?).map (onCells (putCells en off dk)) else w.heap[k]? := by
  unfold sortWorld grow putRow mapBlock Go.Sort.ahead
  simp only [Array.getElem?_append, Array.size_modify, if_pos hk, Array.getElem?_modify]
  by_cases h : k = blk
  · subst h; simp
  · rw [if_neg h, if_neg (fun e => h e.symm)]
theorem sw_size {α : Type} [Inhabited α] (en : α → Value) (w : World) (blk off m : Nat) (dk : Array α) (os : Array Obj) : w.heap.size ≤ (sortWorld en w blk off m dk os).heap.size := by
  unfold sortWorld grow putRow mapBlock Go.Sort.ahead
  simp
theorem cell_heap {w w' : World} {a : Addr} (h : w'.heap[a.block]? = w.heap[a.block]?) : w'.cell? a = w.cell? a := by
  unfold World.cell?
  rw [h]
/-- The order of the sort. -/
theorem swo_desc {α : Type} (f : α → Nat) : SWO (ltOf fun x y : α => ((f y : Nat) : Int) - (f x : Nat)) := by
  have e : ∀ x y : α, ltOf (fun x y : α => ((f y : Nat) : Int) - (f x : Nat)) x y = decide (f y < f x) := fun x y => by
    unfold ltOf
    show decide (((f y : Nat) : Int) - (f x : Nat) < 0) = _
    exact decide_eq_decide.2 (by omega)
  refine ⟨fun x => ?_, fun x y z h1 h2 => ?_, fun x y z h1 h2 => ?_⟩
  · rw [e]; simp
  · rw [e] at *; simp at *; omega
  · rw [e] at *; simp at *; omega
end Go.Proofs.Ytafeehlpmdligaa
