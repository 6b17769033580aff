/- index.newLedger, index.calls, both placed, names. -/
import Derived.Test.YtjjmedgibcffhaaROp2
import Derived.Test.YtjjmedgibcffhaaRBr
import Derived.Test.YtjjmedgibcffhaaRIx5
namespace Go.Proofs.Ytjjmedgibcffhaa
open Go.RowKit M
set_option linter.unusedSimpArgs false
set_option linter.unusedVariables false
theorem new47 (S : St) : CallM Try.prog 47 [] S fun r S' => ∃ L O, r = .ptr L 0 ∧ LedAt S'.get L Bk.empty O ∧ (∀ m, O m → S.next ≤ m ∧ m < S'.next) ∧ S.next ≤ S'.next ∧ ∀ m k, S.get m = some k → S'.get m = some k := by
  refine CallM.start (n := 6) Try.func47 rfl rfl (by simp) (by simp only [argL, Nat.reduceAdd] <;> rfl) ?_
  intro hH
  obtain ⟨H, hHe⟩ : ∃ H, H = S.get := ⟨_, rfl⟩
  obtain ⟨n0, hne⟩ : ∃ n0, n0 = S.next := ⟨_, rfl⟩
  rw [← hHe, ← hne] at hH ⊢
  ((repeat refine WpM.seq ?_); have z_ex := True.intro; refine WpM.regPE [] [] (by (refine s_m [] ?_; exact wpS_nil ⟨rfl, rfl⟩)) z_su ?_; clear z_ex)
  ((repeat refine WpM.seq ?_); have z_ex := True.intro; refine WpM.regPE [] [(0, _)] (by (refine s_k [] ?_; refine s_k [] ?_; refine s_k [] ?_; refine s_g [(1, _), (2, _), (3, _)] ?_; refine s_b [(4, _)] ?_; refine s_m [(5, _)] ?_; exact wpS_nil ⟨rfl, rfl⟩)) z_su ?_; clear z_ex)
  refine WpM.ret ?_
  refine ⟨.inr rfl, Upd.ghostIn (n0 + 5) 0 1 (cs := [.nil, .map (n0 + 1), .nil, .map (n0 + 2), .map (n0 + 3)]) (by (simp (maxSteps := 2000000) (disch := omega) [go_sem, -List.map_map])) (.inl rfl) (Upd.ghostIn (n0 + 5) 2 1 (cs := [.ms (n0 + 7) 1 0 0, .map (n0 + 1), .nil, .map (n0 + 2), .map (n0 + 3)]) (by (simp (maxSteps := 2000000) (disch := omega) [go_sem, -List.map_map])) (.inl rfl) (Upd.done ?_))⟩
  refine ⟨_, (by (simp (maxSteps := 2000000) (disch := omega) [go_sem, -List.map_map, resV, resVs, resV1])), n0 + 5, fun m => n0 ≤ m ∧ m < n0 + 9, rfl, ⟨n0 + 7, n0 + 1, n0 + 8, n0 + 2, n0 + 3, fun _ => none, fun _ => none, fun _ => none, fun _ => 0, ?_⟩, fun m hm => ⟨hm.1, ?_⟩, ?_, fun m k hk => ?_⟩
  · refine ⟨by (simp (maxSteps := 2000000) (disch := omega) [go_sem, -List.map_map, Bk.empty]), by (simp (maxSteps := 2000000) (disch := omega) [go_sem, -List.map_map, Bk.empty]), by (simp (maxSteps := 2000000) (disch := omega) [go_sem, -List.map_map, Bk.empty]), by (simp (maxSteps := 2000000) (disch := omega) [go_sem, -List.map_map]), by (simp (maxSteps := 2000000) (disch := omega) [go_sem, -List.map_map]), by (simp (maxSteps := 2000000) (disch := omega) [go_sem, -List.map_map]), fun s => rfl, fun s i => rfl, fun s _ => rfl, fun s hs => absurd rfl hs, fun s s' hs => absurd rfl hs, ?_, ?_, ?_, ?_, ?_, ?_, ?_, ?_⟩ <;> omega
  · have := hm.2; show m < n0 + 9; exact this
  · show n0 ≤ n0 + 9; omega
  · have := hH _ _ hk
    (simp (maxSteps := 2000000) (disch := omega) [go_sem, -List.map_map, hk])
end Go.Proofs.Ytjjmedgibcffhaa
