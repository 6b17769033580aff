/- Part 8 of the texts that stand behind this law. -/
import Derived.Test.YtjjmedgibcffhaaZc7
/- index.(*ledger).enter. -/
namespace Go.Proofs.Ytjjmedgibcffhaa
open Go.RowKit M
set_option linter.unusedSimpArgs false
set_option linter.unusedVariables false
/-- What entering a call leaves. -/
def EntP (At : (Nat → Option Blk) → Nat → Bk → (Nat → Prop) → Prop) (n0 : Nat) (H : Nat → Option Blk) (L : Nat) (O : Nat → Prop) (res : Except Int Bk) (r : V) (S' : St) : Prop :=
  n0 ≤ S'.next ∧ (∀ m k, ¬ O m → H m = some k → S'.get m = some k) ∧ match res with
    | .error e => r = .d (.int .i64 e) ∧ e ≠ 0
    | .ok b' => r = .d (.int .i64 0) ∧ ∃ O', (∀ m, O' m → (O m ∨ n0 ≤ m) ∧ m < S'.next) ∧ At S'.get L b' O'
set_option maxHeartbeats 8000000 in
theorem enter48 (b : Bk) (n : Nat) (hw : b.Wf n) (c : CallD) (hk1 : 1 ≤ c.kind) (hk8 : c.kind ≤ 8) (who : Int) (L : Nat) (O : Nat → Prop) (S : St) (hL : LedAt S.get L b O) (hO : ∀ m, O m → m < S.next) :
    CallM Try.prog 48 [.ptr L 0, .d (encCall c), .d (.int .i64 who)] S fun r S' => EntP LedAt S.next S.get L O (enterB b c who) r S' := by
  refine CallM.start (n := 144) Try.func48 rfl rfl (by simp) (by simp only [argL, Nat.reduceAdd] <;> rfl) ?_
  intro hH
  obtain ⟨H, hHe⟩ : ∃ H, H = S.get := ⟨_, rfl⟩
  obtain ⟨n0, hne⟩ : ∃ n0, n0 = S.next := ⟨_, rfl⟩
  rw [← hHe, ← hne] at hH ⊢
  rw [← hHe] at hL
  rw [← hne] at hO
  obtain ⟨nk, na, nt, nf, ni, am, fm, im, r, hN⟩ := hL
  obtain ⟨q1, q2, q3, q4, q5, q6, q7, q8, q9, q10, q11, q12, q13, q14⟩ := hN.ne
  have hkt := hN.hkt
  have hai := hN.hai
  have gL : L < n0 := hO _ hN.oL
  have gk : nk < n0 := hO _ hN.ok
  have ga : na < n0 := hO _ hN.oa
  have gt : nt < n0 := hO _ hN.ot
  have gf : nf < n0 := hO _ hN.of_
  have gi : ni < n0 := hO _ hN.oi
  have k1 := hN.box
  have k2 := hN.gat
  have k3 := hN.at_ c.key
  obtain ⟨v7, hv7⟩ : ∃ v, (am (.str c.key)).getD (.d (.int .i64 0)) = v := ⟨_, rfl⟩
  obtain ⟨kn, hkn⟩ : ∃ v, (am (.str c.key)).isSome = v := ⟨_, rfl⟩
  ((repeat refine WpM.seq ?_); have z_ex := (And.intro @encCall.eq_1 True.intro); refine WpM.regPE [] [(0, _), (2, _), (4, _)] (by (refine s_o [(1, _)] rfl rfl rfl z_su rfl q_box z_fp z_ss ?_; refine s_o [] rfl rfl rfl z_su rfl q_move z_fp z_ss ?_; exact wpS_nil ⟨rfl, rfl⟩)) z_su ?_; clear z_ex)
  ((repeat refine WpM.seq ?_); have z_ex := (And.intro @k1 (And.intro @k2 (And.intro @hv7 (And.intro @hkn True.intro)))); refine WpM.drwPE [] [(0, _), (2, _), (4, _), (7, _), (8, _)] mixed (by kernel_rfl) (by kernel_rfl) [] (by kernel_rfl) (by (refine d_o [(0, _)] rfl rfl rfl z_su rfl q_move z_fp z_ss rfl ?_; refine d_o [(14, _)] rfl rfl rfl z_su rfl q_move z_fp z_ss rfl ?_; refine d_o [(15, _)] rfl rfl rfl z_su rfl q_fieldAddr z_fp z_ss rfl ?_; refine d_o [(16, _)] rfl rfl rfl z_su rfl q_load z_fp z_ss rfl ?_; refine d_o [(4, _)] rfl rfl rfl z_su rfl q_fieldAddr z_fp z_ss rfl ?_; refine d_o [(18, _)] rfl rfl rfl z_su rfl q_load z_fp z_ss rfl ?_; refine d_o [(17, _), (19, _)] rfl rfl rfl z_su rfl q_lookup z_fp z_ss rfl ?_; refine d_o [(20, _)] rfl rfl rfl z_su rfl q_move z_fp z_ss rfl ?_; refine d_o [(13, _)] rfl rfl rfl z_su rfl q_extract z_fp z_ss rfl ?_; refine d_o [(13, _)] rfl rfl rfl z_su rfl q_extract z_fp z_ss rfl ?_; refine d_o [(21, _)] rfl rfl rfl z_su rfl q_move z_fp z_ss rfl ?_; refine d_o [(22, _)] rfl rfl rfl z_su rfl q_move z_fp z_ss rfl ?_; exact d_end z_mt z_sn)) z_su ?_; clear z_ex)
  refine WpM.seq ?_
  refine wpMid (Mid := fun (fr : Fr) (S' : St) => ∃ b1 k O1, addB b c = some (b1, k) ∧ LedAt S'.get L b1 O1 ∧ (∀ m, O1 m → (O m ∨ n0 < m) ∧ m < S'.next) ∧ n0 < S'.next ∧ S'.get n0 = some (.box [.d (.int .i64 c.kind), .d (.str c.key), .d (.int .i64 c.arg), .d (.bool c.got), .d (.sl (c.vals.map (D.int .i64)))]) ∧ (∀ m k, ¬ O m → H m = some k → S'.get m = some k) ∧ FrLe fr (frOf [(0, .ptr L 0), (2, .d (.int .i64 who)), (4, .ptr n0 0), (7, .d (.int .i64 k))])) ?_ ?_
  · cases hf : findN b.keys c.key with
    | none =>
      rw [hf] at k3
      simp only [Option.map_none] at k3
      obtain rfl : kn = false := by rw [← hkn, k3]; rfl
      obtain rfl : v7 = .d (.int .i64 0) := by rw [← hv7, k3]; rfl
      ((repeat refine WpM.seq ?_); have z_ex := True.intro; refine WpM.regPE [] [(0, _), (2, _), (4, _), (7, _), (24, _)] (by (refine s_o [(8, _)] rfl rfl rfl z_su rfl q_move z_fp z_ss ?_; refine s_o [(23, _)] rfl rfl rfl z_su rfl q_unOp z_fp z_ss ?_; exact wpS_nil ⟨rfl, rfl⟩)) z_su ?_; clear z_ex)
      ((repeat refine WpM.seq ?_); refine WpM.condT (by (simp (maxSteps := 2000000) (disch := omega) [go_sem, -List.map_map])) ?_)
      ((repeat refine WpM.seq ?_); have z_ex := (And.intro @k1 True.intro); refine WpM.regPE [] [(0, _), (2, _), (4, _), (30, _)] (by (refine s_o [(0, _)] rfl rfl rfl z_su rfl q_move z_fp z_ss ?_; refine s_o [(25, _)] rfl rfl rfl z_su rfl q_move z_fp z_ss ?_; refine s_o [(26, _)] rfl rfl rfl z_su rfl q_fieldAddr z_fp z_ss ?_; refine s_o [(27, _)] rfl rfl rfl z_su rfl q_load z_fp z_ss ?_; refine s_o [(28, _)] rfl rfl rfl z_su rfl q_full z_fp z_ss ?_; refine s_o [(29, _)] rfl rfl rfl z_su rfl q_full z_fp z_ss ?_; exact wpS_nil ⟨rfl, rfl⟩)) z_su ?_; clear z_ex)
      by_cases hl : b.keys.length = 32
      · ((repeat refine WpM.seq ?_); refine WpM.condT (by (simp (maxSteps := 2000000) (disch := omega) [go_sem, -List.map_map, hl])) ?_)
        have he : enterB b c who = .error 2 := by simp [enterB, addB, hf, hl]
        rw [he]
        ((repeat refine WpM.seq ?_); have z_ex := True.intro; refine WpM.regPE [] [(6, _)] (by (refine s_o [] rfl rfl rfl z_su rfl q_move z_fp z_ss ?_; exact wpS_nil ⟨rfl, rfl⟩)) z_su ?_; clear z_ex)
        refine WpM.ret ?_
        refine ⟨.inr rfl, Upd.done ⟨_, (by (simp (maxSteps := 2000000) (disch := omega) [go_sem, -List.map_map, resV, resVs, resV1])), (by show n0 ≤ n0 + _; omega), fun m k _ hk => ?_, rfl, by decide⟩⟩
        have := hH _ _ hk
        (simp (maxSteps := 2000000) (disch := omega) [go_sem, -List.map_map, hk])
      · have hl' : ¬ ((b.keys.length : Int) = 32) := by omega
        ((repeat refine WpM.seq ?_); refine WpM.condF (by (simp (maxSteps := 2000000) (disch := omega) [go_sem, -List.map_map, hl'])) ?_)
        refine WpM.skip ?_
        have hkl := hw.keys
        have ht := typeOf57 c.kind hk1 hk8
        have k4 := hN.keys
        have k5 := hN.types
        have htl := hw.types
        have t1 : (b.keys.map fun s => V.d (.str s)).take b.keys.length = b.keys.map fun s => V.d (.str s) := List.take_of_length_le (by simp)
        have t2 : (b.types.map fun s => V.d (.int .i64 s)).take b.types.length = b.types.map fun s => V.d (.int .i64 s) := List.take_of_length_le (by simp)
        ((repeat refine WpM.seq ?_); have z_ex := (And.intro @k1 True.intro); refine WpM.regPE [] [(0, _), (2, _), (4, _), (7, _)] (by (refine s_o [(0, _)] rfl rfl rfl z_su rfl q_move z_fp z_ss ?_; refine s_o [(31, _)] rfl rfl rfl z_su rfl q_move z_fp z_ss ?_; refine s_o [(32, _)] rfl rfl rfl z_su rfl q_fieldAddr z_fp z_ss ?_; refine s_o [(33, _)] rfl rfl rfl z_su rfl q_load z_fp z_ss ?_; refine s_o [(34, _)] rfl rfl rfl z_su rfl q_full z_fp z_ss ?_; refine s_o [(35, _)] rfl rfl rfl z_su rfl q_move z_fp z_ss ?_; exact wpS_nil ⟨rfl, rfl⟩)) z_su ?_; clear z_ex)
        ((repeat refine WpM.seq ?_); have z_ex := (And.intro @k1 (And.intro @k2 True.intro)); refine WpM.drwPE [] [(0, _), (2, _), (4, _), (7, _)] mixed (by kernel_rfl) (by kernel_rfl) [] (by kernel_rfl) (by (refine d_o [(0, _)] rfl rfl rfl z_su rfl q_move z_fp z_ss rfl ?_; refine d_o [(36, _)] rfl rfl rfl z_su rfl q_move z_fp z_ss rfl ?_; refine d_o [(37, _)] rfl rfl rfl z_su rfl q_fieldAddr z_fp z_ss rfl ?_; refine d_o [(38, _)] rfl rfl rfl z_su rfl q_load z_fp z_ss rfl ?_; refine d_o [(4, _)] rfl rfl rfl z_su rfl q_fieldAddr z_fp z_ss rfl ?_; refine d_o [(40, _)] rfl rfl rfl z_su rfl q_load z_fp z_ss rfl ?_; refine d_o [(7, _)] rfl rfl rfl z_su rfl q_move z_fp z_ss rfl ?_; refine d_o [(39, _), (41, _), (42, _)] rfl rfl rfl z_su rfl q_mapUpdate z_fp z_ss rfl ?_; exact d_end z_mt z_sn)) z_su ?_; clear z_ex)
        ((repeat refine WpM.seq ?_); have z_ex := (And.intro @k1 (And.intro @k4 (And.intro @t1 True.intro))); refine WpM.drwPE [] [(0, _), (2, _), (4, _), (7, _)] mixed (by kernel_rfl) (by kernel_rfl) [(4, 7)] (by kernel_rfl) (by (refine d_o [(0, _)] rfl rfl rfl z_su rfl q_move z_fp z_ss rfl ?_; refine d_o [(0, _)] rfl rfl rfl z_su rfl q_move z_fp z_ss rfl ?_; refine d_o [(44, _)] rfl rfl rfl z_su rfl q_move z_fp z_ss rfl ?_; refine d_o [(45, _)] rfl rfl rfl z_su rfl q_fieldAddr z_fp z_ss rfl ?_; refine d_o [(46, _)] rfl rfl rfl z_su rfl q_load z_fp z_ss rfl ?_; refine d_o [(4, _)] rfl rfl rfl z_su rfl q_fieldAddr z_fp z_ss rfl ?_; refine d_o [(48, _)] rfl rfl rfl z_su rfl q_load z_fp z_ss rfl ?_; refine d_o [(49, _)] rfl rfl rfl z_su rfl q_full z_fp z_ss rfl ?_; refine d_o [(47, _), (50, _)] rfl rfl rfl z_su rfl q_full z_fp z_ss rfl ?_; refine d_o [(43, _)] rfl rfl rfl z_su rfl q_move z_fp z_ss rfl ?_; refine d_o [(52, _)] rfl rfl rfl z_su rfl q_fieldAddr z_fp z_ss rfl ?_; refine d_o [(51, _), (53, _)] rfl rfl rfl z_su rfl q_store z_fp z_ss rfl ?_; exact d_end z_mt z_sn)) z_su ?_; clear z_ex)
        ((repeat refine WpM.seq ?_); have z_ex := (And.intro @k1 (And.intro @k5 (And.intro @t2 True.intro))); refine WpM.drwPE [] [(0, _), (2, _), (4, _), (7, _)] mixed (by kernel_rfl) (by kernel_rfl) [(4, 7), (4, 8)] (by kernel_rfl) (by (refine d_o [(0, _)] rfl rfl rfl z_su rfl q_move z_fp z_ss rfl ?_; refine d_o [(0, _)] rfl rfl rfl z_su rfl q_move z_fp z_ss rfl ?_; refine d_o [(55, _)] rfl rfl rfl z_su rfl q_move z_fp z_ss rfl ?_; refine d_o [(56, _)] rfl rfl rfl z_su rfl q_fieldAddr z_fp z_ss rfl ?_; refine d_o [(57, _)] rfl rfl rfl z_su rfl q_load z_fp z_ss rfl ?_; refine d_o [(4, _)] rfl rfl rfl z_su rfl q_fieldAddr z_fp z_ss rfl ?_; refine d_o [(59, _)] rfl rfl rfl z_su rfl q_load z_fp z_ss rfl ?_; refine d_pure (callOf_eq rfl rfl rfl (mlk_tmp z_lk mlk_nil)) (ht) rfl rfl z_ip rfl z_fp ?_; refine d_o [(61, _)] rfl rfl rfl z_su rfl q_full z_fp z_ss rfl ?_; refine d_o [(58, _), (62, _)] rfl rfl rfl z_su rfl q_full z_fp z_ss rfl ?_; refine d_o [(54, _)] rfl rfl rfl z_su rfl q_move z_fp z_ss rfl ?_; refine d_o [(64, _)] rfl rfl rfl z_su rfl q_fieldAddr z_fp z_ss rfl ?_; refine d_o [(63, _), (65, _)] rfl rfl rfl z_su rfl q_store z_fp z_ss rfl ?_; exact d_end z_mt z_sn)) z_su ?_; clear z_ex)
        have o1 : ¬ O (n0 + 44) := fun h => by have := hO _ h; omega
        have o2 : ¬ O (n0 + 57) := fun h => by have := hO _ h; omega
        refine ⟨b.push c, b.keys.length, fun m => O m ∨ m = n0 + 44 ∨ m = n0 + 57, by simp [addB, hf, hl], hN.push hw hf o1 o2 (by omega) (by (simp (maxSteps := 2000000) (disch := omega) [go_sem, -List.map_map])) (by (simp (maxSteps := 2000000) (disch := omega) [go_sem, -List.map_map])) (by (simp (maxSteps := 2000000) (disch := omega) [go_sem, -List.map_map])) (by (simp (maxSteps := 2000000) (disch := omega) [go_sem, -List.map_map])) (fun m k h1 h2 h3 h4 ho hk => ?_), fun m hm => ?_, ?_, ?_, fun m k ho hk => ?_, FrLe.refl _⟩
        · have := hO _ ho
          (simp (maxSteps := 2000000) (disch := omega) [go_sem, -List.map_map, hk])
        · show _ ∧ m < n0 + 61
          rcases hm with hm | rfl | rfl
          · have := hO _ hm; exact ⟨.inl hm, by omega⟩
          · exact ⟨.inr (by omega), by omega⟩
          · exact ⟨.inr (by omega), by omega⟩
        · show n0 < n0 + 61; omega
        · (simp (maxSteps := 2000000) (disch := omega) [go_sem, -List.map_map])
        · have h1 : m ≠ L := fun e => ho (e ▸ hN.oL)
          have h2 : m ≠ nk := fun e => ho (e ▸ hN.ok)
          have h3 : m ≠ nt := fun e => ho (e ▸ hN.ot)
          have h4 : m ≠ na := fun e => ho (e ▸ hN.oa)
          have := hH _ _ hk
          (simp (maxSteps := 2000000) (disch := omega) [go_sem, -List.map_map, hk])
    | some k =>
      rw [hf] at k3
      simp only [Option.map_some] at k3
      obtain rfl : kn = true := by rw [← hkn, k3]; rfl
      obtain rfl : v7 = .d (.int .i64 k) := by rw [← hv7, k3]; rfl
      ((repeat refine WpM.seq ?_); have z_ex := True.intro; refine WpM.regPE [] [(0, _), (2, _), (4, _), (7, _), (24, _)] (by (refine s_o [(8, _)] rfl rfl rfl z_su rfl q_move z_fp z_ss ?_; refine s_o [(23, _)] rfl rfl rfl z_su rfl q_unOp z_fp z_ss ?_; exact wpS_nil ⟨rfl, rfl⟩)) z_su ?_; clear z_ex)
      ((repeat refine WpM.seq ?_); refine WpM.condF (by (simp (maxSteps := 2000000) (disch := omega) [go_sem, -List.map_map])) ?_)
      refine WpM.skip ?_
      refine ⟨b, k, O, by simp [addB, hf], ?_, fun m hm => ⟨.inl hm, ?_⟩, ?_, ?_, fun m k ho hk => ?_, ?_⟩
      · refine LedAt.same (G := H) ⟨nk, na, nt, nf, ni, am, fm, im, r, hN⟩ fun m k ho hk => ?_
        have := hO _ ho
        (simp (maxSteps := 2000000) (disch := omega) [go_sem, -List.map_map, hk])
      · have := hO _ hm; show m < n0 + _; omega
      · show n0 < n0 + _; omega
      · (simp (maxSteps := 2000000) (disch := omega) [go_sem, -List.map_map])
      · have := hH _ _ hk
        (simp (maxSteps := 2000000) (disch := omega) [go_sem, -List.map_map, hk])
      · exact frLe_frOf (by (simp (maxSteps := 2000000) (disch := omega) [go_sem, -List.map_map]))
  clear hkn hv7 k1 k2 k3 hN q1 q2 q3 q4 q5 q6 q7 q8 q9 q10 q11 q12 q13 q14 hkt hai gL gk ga gt gf gi
  rintro fr S' ⟨b1, k, O1, hadd, ⟨nk, na, nt, nf, ni, am, fm, im, r, hN⟩, hO1, hnx, hc, old, hfr⟩
  refine WpM.less (St.Le.refl _) hfr ?_
  refine WpM.norm ?_
  intro nx G hnx2 hG2 hGk
  rw [← hG2] at hN hc old
  rw [← hnx2] at hnx hO1
  clear hG2 hnx2 hfr
  obtain ⟨hw1, hf1⟩ := addB_wf hw hadd
  have hen : enterB b c who = putB b1 k c who := by simp [enterB, hadd]
  rw [hen]
  clear hen hadd
  obtain ⟨q1, q2, q3, q4, q5, q6, q7, q8, q9, q10, q11, q12, q13, q14⟩ := hN.ne
  have hkt := hN.hkt
  have hai := hN.hai
  have on0 : ¬ O1 n0 := fun h => by
    rcases (hO1 _ h).1 with h' | h'
    · have := hO _ h'; omega
    · omega
  have gL : L < nx := (hO1 _ hN.oL).2
  have gk : nk < nx := (hO1 _ hN.ok).2
  have ga : na < nx := (hO1 _ hN.oa).2
  have gt : nt < nx := (hO1 _ hN.ot).2
  have gf : nf < nx := (hO1 _ hN.of_).2
  have gi : ni < nx := (hO1 _ hN.oi).2
  have nL : n0 ≠ L := fun e => on0 (e ▸ hN.oL)
  have nk0 : n0 ≠ nk := fun e => on0 (e ▸ hN.ok)
  have na0 : n0 ≠ na := fun e => on0 (e ▸ hN.oa)
  have nt0 : n0 ≠ nt := fun e => on0 (e ▸ hN.ot)
  have nf0 : n0 ≠ nf := fun e => on0 (e ▸ hN.of_)
  have ni0 : n0 ≠ ni := fun e => on0 (e ▸ hN.oi)
  have k1 := hN.box
  have k5 := hN.types
  have hkl := findN_lt hf1
  have htl := hw1.types
  have hkt1 : k < b1.types.length := by omega
  obtain ⟨ty, hty0⟩ : ∃ ty, ty = b1.types.getD k 0 := ⟨_, rfl⟩
  have hgt : (b1.types.map fun t => V.d (.int .i64 t))[k]? = some (.d (.int .i64 ty)) := by rw [hty0]; simp [hkt1]
  have ht := typeOf57 c.kind hk1 hk8
  have oldO : ∀ m k, ¬ O m → H m = some k → m < nx ∧ G m = some k ∧ m ≠ n0 := fun m k ho hk => by
    have h1 := old m k ho hk
    have h2 := hGk _ _ h1
    have h3 := hH _ _ hk
    exact ⟨h2, h1, by omega⟩
  ((repeat refine WpM.seq ?_); have z_ex := (And.intro @k1 (And.intro @k5 (And.intro @hgt (And.intro @hkt1 (And.intro @hc True.intro))))); refine WpM.drwPE [] [(0, _), (2, _), (4, _), (76, _)] mixed (by kernel_rfl) (by kernel_rfl) [(3, 9), (6, 9)] (by kernel_rfl) (by (refine d_o [(0, _)] rfl rfl rfl z_su rfl q_move z_fp z_ss rfl ?_; refine d_o [(66, _)] rfl rfl rfl z_su rfl q_move z_fp z_ss rfl ?_; refine d_o [(67, _)] rfl rfl rfl z_su rfl q_fieldAddr z_fp z_ss rfl ?_; refine d_o [(68, _)] rfl rfl rfl z_su rfl q_load z_fp z_ss rfl ?_; refine d_o [(7, _)] rfl rfl rfl z_su rfl q_move z_fp z_ss rfl ?_; refine d_o [(69, _), (70, _)] rfl rfl rfl z_su rfl q_full z_fp z_ss rfl ?_; refine d_o [(71, _)] rfl rfl rfl z_su rfl q_load z_fp z_ss rfl ?_; refine d_o [(4, _)] rfl rfl rfl z_su rfl q_fieldAddr z_fp z_ss rfl ?_; refine d_o [(73, _)] rfl rfl rfl z_su rfl q_load z_fp z_ss rfl ?_; refine d_pure (callOf_eq rfl rfl rfl (mlk_tmp z_lk mlk_nil)) (ht) rfl rfl z_ip rfl z_fp ?_; refine d_o [(72, _), (75, _)] rfl rfl rfl z_su rfl q_full z_fp z_ss rfl ?_; exact d_end z_mt z_sn)) z_su ?_; clear z_ex)
  by_cases hty : ty = tyOf c.kind
  · ((repeat refine WpM.seq ?_); refine WpM.condF (by (simp (maxSteps := 2000000) (disch := omega) [go_sem, -List.map_map, hty])) ?_)
    refine WpM.skip ?_
    ((repeat refine WpM.seq ?_); have z_ex := (And.intro @hc True.intro); refine WpM.regPE [] [(0, _), (2, _), (4, _), (78, _)] (by (refine s_o [(4, _)] rfl rfl rfl z_su rfl q_fieldAddr z_fp z_ss ?_; refine s_o [(77, _)] rfl rfl rfl z_su rfl q_load z_fp z_ss ?_; exact wpS_nil ⟨rfl, rfl⟩)) z_su ?_; clear z_ex)
    ((repeat refine WpM.seq ?_); refine WpM.block ?_)
    have hput : putB b1 k c who = if c.kind = 2 ∨ c.kind = 3 then
        if c.arg ∈ b1.wrote.getD k [] then .error 3 else .ok { b1 with wrote := b1.wrote.set k (b1.wrote.getD k [] ++ [c.arg]) }
      else if c.kind = 4 then
        if 8 < (incNext (b1.incs.getD k []) who).length then .error 51 else .ok { b1 with incs := b1.incs.set k (incNext (b1.incs.getD k []) who) }
      else .ok b1 := by rw [putB, ← hty0, if_neg (by simpa using hty)]
    rw [hput]
    clear hput
    by_cases h23 : c.kind = 2 ∨ c.kind = 3
    · rw [if_pos h23]
      have hfx := hN.fact c.key c.arg
      have hfe : factB b1 c.key c.arg = decide (c.arg ∈ b1.wrote.getD k []) := by rw [factB, hf1]
      rw [hfe] at hfx
      have k6 := hN.gfact
      rcases h23 with h2 | h2
      · ((repeat refine WpM.seq ?_); have z_ex := (And.intro @h2 True.intro); refine WpM.regPE [] [(0, _), (2, _), (4, _), (78, _), (79, _)] (by (refine s_o [(78, _)] rfl rfl rfl z_su rfl q_full z_fp z_ss ?_; refine s_o [(80, _)] rfl rfl rfl z_su rfl q_move z_fp z_ss ?_; exact wpS_nil ⟨rfl, rfl⟩)) z_su ?_; clear z_ex)
        ((repeat refine WpM.seq ?_); refine WpM.condT (by (simp (maxSteps := 2000000) (disch := omega) [go_sem, -List.map_map, h2])) ?_)
        refine WpM.skip ?_
        ((repeat refine WpM.seq ?_); refine WpM.condT (by (simp (maxSteps := 2000000) (disch := omega) [go_sem, -List.map_map, h2])) ?_)
        ((repeat refine WpM.seq ?_); have z_ex := (And.intro @hc True.intro); refine WpM.regPE [] [(0, _), (9, _)] (by (refine s_o [(4, _)] rfl rfl rfl z_su rfl q_fieldAddr z_fp z_ss ?_; refine s_o [(82, _)] rfl rfl rfl z_su rfl q_load z_fp z_ss ?_; refine s_o [(4, _)] rfl rfl rfl z_su rfl q_fieldAddr z_fp z_ss ?_; refine s_o [(84, _)] rfl rfl rfl z_su rfl q_load z_fp z_ss ?_; refine s_o [(83, _), (85, _)] rfl rfl rfl z_su rfl q_build z_fp z_ss ?_; refine s_o [] rfl rfl rfl z_su rfl q_alloc z_fp z_ss ?_; refine s_o [(9, _), (86, _)] rfl rfl rfl z_su rfl q_store z_fp z_ss ?_; exact wpS_nil ⟨rfl, rfl⟩)) z_su ?_; clear z_ex)
        by_cases hin : c.arg ∈ b1.wrote.getD k []
        · rw [if_pos hin]
          simp only [hin, decide_true, if_true] at hfx
          ((repeat refine WpM.seq ?_); have z_ex := (And.intro @k1 (And.intro @k6 (And.intro @hfx True.intro))); refine WpM.drwPE [] [(0, _), (9, _), (11, _)] mixed (by kernel_rfl) (by kernel_rfl) [(3, 9), (4, 9), (5, 9)] (by kernel_rfl) (by (refine d_o [(0, _)] rfl rfl rfl z_su rfl q_move z_fp z_ss rfl ?_; refine d_o [(88, _)] rfl rfl rfl z_su rfl q_move z_fp z_ss rfl ?_; refine d_o [(89, _)] rfl rfl rfl z_su rfl q_fieldAddr z_fp z_ss rfl ?_; refine d_o [(90, _)] rfl rfl rfl z_su rfl q_load z_fp z_ss rfl ?_; refine d_o [(9, _)] rfl rfl rfl z_su rfl q_load z_fp z_ss rfl ?_; refine d_o [(91, _), (92, _)] rfl rfl rfl z_su rfl q_lookup z_fp z_ss rfl ?_; refine d_o [(93, _)] rfl rfl rfl z_su rfl q_move z_fp z_ss rfl ?_; refine d_o [(87, _)] rfl rfl rfl z_su rfl q_extract z_fp z_ss rfl ?_; refine d_o [(87, _)] rfl rfl rfl z_su rfl q_extract z_fp z_ss rfl ?_; refine d_o [] rfl rfl rfl z_su rfl q_alloc z_fp z_ss rfl ?_; refine d_o [(10, _), (94, _)] rfl rfl rfl z_su rfl q_store z_fp z_ss rfl ?_; refine d_o [(95, _)] rfl rfl rfl z_su rfl q_move z_fp z_ss rfl ?_; exact d_end z_mt z_sn)) z_su ?_; clear z_ex)
          ((repeat refine WpM.seq ?_); have z_ex := True.intro; refine WpM.regPE [] [(0, _), (9, _), (96, _)] (by (refine s_o [(11, _)] rfl rfl rfl z_su rfl q_move z_fp z_ss ?_; exact wpS_nil ⟨rfl, rfl⟩)) z_su ?_; clear z_ex)
          ((repeat refine WpM.seq ?_); refine WpM.condT (by (simp (maxSteps := 2000000) (disch := omega) [go_sem, -List.map_map])) ?_)
          ((repeat refine WpM.seq ?_); have z_ex := True.intro; refine WpM.regPE [] [(6, _)] (by (refine s_o [] rfl rfl rfl z_su rfl q_move z_fp z_ss ?_; exact wpS_nil ⟨rfl, rfl⟩)) z_su ?_; clear z_ex)
          refine WpM.ret ?_
          refine ⟨.inr rfl, Upd.done ⟨_, (by (simp (maxSteps := 2000000) (disch := omega) [go_sem, -List.map_map, resV, resVs, resV1])), (by show n0 ≤ nx + _; omega), fun m k ho hk => ?_, rfl, by decide⟩⟩
          obtain ⟨h1, h2, h3⟩ := oldO m k ho hk
          (simp (maxSteps := 2000000) (disch := omega) [go_sem, -List.map_map, h2])
        · rw [if_neg hin]
          simp only [hin, decide_false, Bool.false_eq_true, if_false] at hfx
          ((repeat refine WpM.seq ?_); have z_ex := (And.intro @k1 (And.intro @k6 (And.intro @hfx True.intro))); refine WpM.drwPE [] [(0, _), (9, _), (11, _)] mixed (by kernel_rfl) (by kernel_rfl) [(3, 9), (4, 9), (5, 9)] (by kernel_rfl) (by (refine d_o [(0, _)] rfl rfl rfl z_su rfl q_move z_fp z_ss rfl ?_; refine d_o [(88, _)] rfl rfl rfl z_su rfl q_move z_fp z_ss rfl ?_; refine d_o [(89, _)] rfl rfl rfl z_su rfl q_fieldAddr z_fp z_ss rfl ?_; refine d_o [(90, _)] rfl rfl rfl z_su rfl q_load z_fp z_ss rfl ?_; refine d_o [(9, _)] rfl rfl rfl z_su rfl q_load z_fp z_ss rfl ?_; refine d_o [(91, _), (92, _)] rfl rfl rfl z_su rfl q_lookup z_fp z_ss rfl ?_; refine d_o [(93, _)] rfl rfl rfl z_su rfl q_move z_fp z_ss rfl ?_; refine d_o [(87, _)] rfl rfl rfl z_su rfl q_extract z_fp z_ss rfl ?_; refine d_o [(87, _)] rfl rfl rfl z_su rfl q_extract z_fp z_ss rfl ?_; refine d_o [] rfl rfl rfl z_su rfl q_alloc z_fp z_ss rfl ?_; refine d_o [(10, _), (94, _)] rfl rfl rfl z_su rfl q_store z_fp z_ss rfl ?_; refine d_o [(95, _)] rfl rfl rfl z_su rfl q_move z_fp z_ss rfl ?_; exact d_end z_mt z_sn)) z_su ?_; clear z_ex)
          ((repeat refine WpM.seq ?_); have z_ex := True.intro; refine WpM.regPE [] [(0, _), (9, _), (96, _)] (by (refine s_o [(11, _)] rfl rfl rfl z_su rfl q_move z_fp z_ss ?_; exact wpS_nil ⟨rfl, rfl⟩)) z_su ?_; clear z_ex)
          ((repeat refine WpM.seq ?_); refine WpM.condF (by (simp (maxSteps := 2000000) (disch := omega) [go_sem, -List.map_map])) ?_)
          refine WpM.skip ?_
          ((repeat refine WpM.seq ?_); have z_ex := (And.intro @k1 (And.intro @k6 True.intro)); refine WpM.drwPE [] [] mixed (by kernel_rfl) (by kernel_rfl) [] (by kernel_rfl) (by (refine d_o [(0, _)] rfl rfl rfl z_su rfl q_move z_fp z_ss rfl ?_; refine d_o [(97, _)] rfl rfl rfl z_su rfl q_move z_fp z_ss rfl ?_; refine d_o [(98, _)] rfl rfl rfl z_su rfl q_fieldAddr z_fp z_ss rfl ?_; refine d_o [(99, _)] rfl rfl rfl z_su rfl q_load z_fp z_ss rfl ?_; refine d_o [(9, _)] rfl rfl rfl z_su rfl q_load z_fp z_ss rfl ?_; refine d_o [] rfl rfl rfl z_su rfl q_build z_fp z_ss rfl ?_; refine d_o [(100, _), (101, _), (102, _)] rfl rfl rfl z_su rfl q_mapUpdate z_fp z_ss rfl ?_; exact d_end z_mt z_sn)) z_su ?_; clear z_ex)
          ((repeat refine WpM.seq ?_); have z_ex := True.intro; refine WpM.regPE [] [(6, _)] (by (refine s_o [] rfl rfl rfl z_su rfl q_move z_fp z_ss ?_; exact wpS_nil ⟨rfl, rfl⟩)) z_su ?_; clear z_ex)
          refine WpM.ret ?_
          refine ⟨.inr rfl, Upd.done ⟨_, (by (simp (maxSteps := 2000000) (disch := omega) [go_sem, -List.map_map, resV, resVs, resV1])), (by show n0 ≤ nx + _; omega), fun m k ho hk => ?_, rfl, O1, fun m hm => ⟨(hO1 m hm).1.imp id (fun h => by omega), ?_⟩, hN.wrote hw1 hf1 (by (simp (maxSteps := 2000000) (disch := omega) [go_sem, -List.map_map])) fun m k h1 ho hk => ?_⟩⟩
          · obtain ⟨h1, h2, h3⟩ := oldO m k ho hk
            have h4 : m ≠ nf := fun e => by
              rcases (hO1 _ hN.of_).1 with h | h
              · exact ho (e ▸ h)
              · have := hH _ _ hk; omega
            (simp (maxSteps := 2000000) (disch := omega) [go_sem, -List.map_map, h2])
          · have := (hO1 m hm).2; show m < nx + _; omega
          · have h2 := (hO1 _ ho).2
            have h3 : m ≠ n0 := fun e => on0 (e ▸ ho)
            (simp (maxSteps := 2000000) (disch := omega) [go_sem, -List.map_map, hk])
      · ((repeat refine WpM.seq ?_); have z_ex := (And.intro @h2 True.intro); refine WpM.regPE [] [(0, _), (2, _), (4, _), (78, _), (79, _)] (by (refine s_o [(78, _)] rfl rfl rfl z_su rfl q_full z_fp z_ss ?_; refine s_o [(80, _)] rfl rfl rfl z_su rfl q_move z_fp z_ss ?_; exact wpS_nil ⟨rfl, rfl⟩)) z_su ?_; clear z_ex)
        ((repeat refine WpM.seq ?_); refine WpM.condF (by (simp (maxSteps := 2000000) (disch := omega) [go_sem, -List.map_map, h2])) ?_)
        ((repeat refine WpM.seq ?_); have z_ex := (And.intro @h2 True.intro); refine WpM.regPE [] [(0, _), (2, _), (4, _), (78, _), (79, _)] (by (refine s_o [(78, _)] rfl rfl rfl z_su rfl q_full z_fp z_ss ?_; refine s_o [(81, _)] rfl rfl rfl z_su rfl q_move z_fp z_ss ?_; exact wpS_nil ⟨rfl, rfl⟩)) z_su ?_; clear z_ex)
        ((repeat refine WpM.seq ?_); refine WpM.condT (by (simp (maxSteps := 2000000) (disch := omega) [go_sem, -List.map_map, h2])) ?_)
        ((repeat refine WpM.seq ?_); have z_ex := (And.intro @hc True.intro); refine WpM.regPE [] [(0, _), (9, _)] (by (refine s_o [(4, _)] rfl rfl rfl z_su rfl q_fieldAddr z_fp z_ss ?_; refine s_o [(82, _)] rfl rfl rfl z_su rfl q_load z_fp z_ss ?_; refine s_o [(4, _)] rfl rfl rfl z_su rfl q_fieldAddr z_fp z_ss ?_; refine s_o [(84, _)] rfl rfl rfl z_su rfl q_load z_fp z_ss ?_; refine s_o [(83, _), (85, _)] rfl rfl rfl z_su rfl q_build z_fp z_ss ?_; refine s_o [] rfl rfl rfl z_su rfl q_alloc z_fp z_ss ?_; refine s_o [(9, _), (86, _)] rfl rfl rfl z_su rfl q_store z_fp z_ss ?_; exact wpS_nil ⟨rfl, rfl⟩)) z_su ?_; clear z_ex)
        by_cases hin : c.arg ∈ b1.wrote.getD k []
        · rw [if_pos hin]
          simp only [hin, decide_true, if_true] at hfx
          ((repeat refine WpM.seq ?_); have z_ex := (And.intro @k1 (And.intro @k6 (And.intro @hfx True.intro))); refine WpM.drwPE [] [(0, _), (9, _), (11, _)] mixed (by kernel_rfl) (by kernel_rfl) [(3, 9), (4, 9), (5, 9)] (by kernel_rfl) (by (refine d_o [(0, _)] rfl rfl rfl z_su rfl q_move z_fp z_ss rfl ?_; refine d_o [(88, _)] rfl rfl rfl z_su rfl q_move z_fp z_ss rfl ?_; refine d_o [(89, _)] rfl rfl rfl z_su rfl q_fieldAddr z_fp z_ss rfl ?_; refine d_o [(90, _)] rfl rfl rfl z_su rfl q_load z_fp z_ss rfl ?_; refine d_o [(9, _)] rfl rfl rfl z_su rfl q_load z_fp z_ss rfl ?_; refine d_o [(91, _), (92, _)] rfl rfl rfl z_su rfl q_lookup z_fp z_ss rfl ?_; refine d_o [(93, _)] rfl rfl rfl z_su rfl q_move z_fp z_ss rfl ?_; refine d_o [(87, _)] rfl rfl rfl z_su rfl q_extract z_fp z_ss rfl ?_; refine d_o [(87, _)] rfl rfl rfl z_su rfl q_extract z_fp z_ss rfl ?_; refine d_o [] rfl rfl rfl z_su rfl q_alloc z_fp z_ss rfl ?_; refine d_o [(10, _), (94, _)] rfl rfl rfl z_su rfl q_store z_fp z_ss rfl ?_; refine d_o [(95, _)] rfl rfl rfl z_su rfl q_move z_fp z_ss rfl ?_; exact d_end z_mt z_sn)) z_su ?_; clear z_ex)
          ((repeat refine WpM.seq ?_); have z_ex := True.intro; refine WpM.regPE [] [(0, _), (9, _), (96, _)] (by (refine s_o [(11, _)] rfl rfl rfl z_su rfl q_move z_fp z_ss ?_; exact wpS_nil ⟨rfl, rfl⟩)) z_su ?_; clear z_ex)
          ((repeat refine WpM.seq ?_); refine WpM.condT (by (simp (maxSteps := 2000000) (disch := omega) [go_sem, -List.map_map])) ?_)
          ((repeat refine WpM.seq ?_); have z_ex := True.intro; refine WpM.regPE [] [(6, _)] (by (refine s_o [] rfl rfl rfl z_su rfl q_move z_fp z_ss ?_; exact wpS_nil ⟨rfl, rfl⟩)) z_su ?_; clear z_ex)
          refine WpM.ret ?_
          refine ⟨.inr rfl, Upd.done ⟨_, (by (simp (maxSteps := 2000000) (disch := omega) [go_sem, -List.map_map, resV, resVs, resV1])), (by show n0 ≤ nx + _; omega), fun m k ho hk => ?_, rfl, by decide⟩⟩
          obtain ⟨h1, h2, h3⟩ := oldO m k ho hk
          (simp (maxSteps := 2000000) (disch := omega) [go_sem, -List.map_map, h2])
        · rw [if_neg hin]
          simp only [hin, decide_false, Bool.false_eq_true, if_false] at hfx
          ((repeat refine WpM.seq ?_); have z_ex := (And.intro @k1 (And.intro @k6 (And.intro @hfx True.intro))); refine WpM.drwPE [] [(0, _), (9, _), (11, _)] mixed (by kernel_rfl) (by kernel_rfl) [(3, 9), (4, 9), (5, 9)] (by kernel_rfl) (by (refine d_o [(0, _)] rfl rfl rfl z_su rfl q_move z_fp z_ss rfl ?_; refine d_o [(88, _)] rfl rfl rfl z_su rfl q_move z_fp z_ss rfl ?_; refine d_o [(89, _)] rfl rfl rfl z_su rfl q_fieldAddr z_fp z_ss rfl ?_; refine d_o [(90, _)] rfl rfl rfl z_su rfl q_load z_fp z_ss rfl ?_; refine d_o [(9, _)] rfl rfl rfl z_su rfl q_load z_fp z_ss rfl ?_; refine d_o [(91, _), (92, _)] rfl rfl rfl z_su rfl q_lookup z_fp z_ss rfl ?_; refine d_o [(93, _)] rfl rfl rfl z_su rfl q_move z_fp z_ss rfl ?_; refine d_o [(87, _)] rfl rfl rfl z_su rfl q_extract z_fp z_ss rfl ?_; refine d_o [(87, _)] rfl rfl rfl z_su rfl q_extract z_fp z_ss rfl ?_; refine d_o [] rfl rfl rfl z_su rfl q_alloc z_fp z_ss rfl ?_; refine d_o [(10, _), (94, _)] rfl rfl rfl z_su rfl q_store z_fp z_ss rfl ?_; refine d_o [(95, _)] rfl rfl rfl z_su rfl q_move z_fp z_ss rfl ?_; exact d_end z_mt z_sn)) z_su ?_; clear z_ex)
          ((repeat refine WpM.seq ?_); have z_ex := True.intro; refine WpM.regPE [] [(0, _), (9, _), (96, _)] (by (refine s_o [(11, _)] rfl rfl rfl z_su rfl q_move z_fp z_ss ?_; exact wpS_nil ⟨rfl, rfl⟩)) z_su ?_; clear z_ex)
          ((repeat refine WpM.seq ?_); refine WpM.condF (by (simp (maxSteps := 2000000) (disch := omega) [go_sem, -List.map_map])) ?_)
          refine WpM.skip ?_
          ((repeat refine WpM.seq ?_); have z_ex := (And.intro @k1 (And.intro @k6 True.intro)); refine WpM.drwPE [] [] mixed (by kernel_rfl) (by kernel_rfl) [] (by kernel_rfl) (by (refine d_o [(0, _)] rfl rfl rfl z_su rfl q_move z_fp z_ss rfl ?_; refine d_o [(97, _)] rfl rfl rfl z_su rfl q_move z_fp z_ss rfl ?_; refine d_o [(98, _)] rfl rfl rfl z_su rfl q_fieldAddr z_fp z_ss rfl ?_; refine d_o [(99, _)] rfl rfl rfl z_su rfl q_load z_fp z_ss rfl ?_; refine d_o [(9, _)] rfl rfl rfl z_su rfl q_load z_fp z_ss rfl ?_; refine d_o [] rfl rfl rfl z_su rfl q_build z_fp z_ss rfl ?_; refine d_o [(100, _), (101, _), (102, _)] rfl rfl rfl z_su rfl q_mapUpdate z_fp z_ss rfl ?_; exact d_end z_mt z_sn)) z_su ?_; clear z_ex)
          ((repeat refine WpM.seq ?_); have z_ex := True.intro; refine WpM.regPE [] [(6, _)] (by (refine s_o [] rfl rfl rfl z_su rfl q_move z_fp z_ss ?_; exact wpS_nil ⟨rfl, rfl⟩)) z_su ?_; clear z_ex)
          refine WpM.ret ?_
          refine ⟨.inr rfl, Upd.done ⟨_, (by (simp (maxSteps := 2000000) (disch := omega) [go_sem, -List.map_map, resV, resVs, resV1])), (by show n0 ≤ nx + _; omega), fun m k ho hk => ?_, rfl, O1, fun m hm => ⟨(hO1 m hm).1.imp id (fun h => by omega), ?_⟩, hN.wrote hw1 hf1 (by (simp (maxSteps := 2000000) (disch := omega) [go_sem, -List.map_map])) fun m k h1 ho hk => ?_⟩⟩
          · obtain ⟨h1, h2, h3⟩ := oldO m k ho hk
            have h4 : m ≠ nf := fun e => by
              rcases (hO1 _ hN.of_).1 with h | h
              · exact ho (e ▸ h)
              · have := hH _ _ hk; omega
            (simp (maxSteps := 2000000) (disch := omega) [go_sem, -List.map_map, h2])
          · have := (hO1 m hm).2; show m < nx + _; omega
          · have h2 := (hO1 _ ho).2
            have h3 : m ≠ n0 := fun e => on0 (e ▸ ho)
            (simp (maxSteps := 2000000) (disch := omega) [go_sem, -List.map_map, hk])
    · rw [if_neg h23]
      have h2 : ¬ c.kind = 2 := fun h => h23 (.inl h)
      have h3 : ¬ c.kind = 3 := fun h => h23 (.inr h)
      ((repeat refine WpM.seq ?_); have z_ex := (And.intro @h2 True.intro); refine WpM.regPE [] [(0, _), (2, _), (4, _), (78, _), (79, _)] (by (refine s_o [(78, _)] rfl rfl rfl z_su rfl q_full z_fp z_ss ?_; refine s_o [(80, _)] rfl rfl rfl z_su rfl q_move z_fp z_ss ?_; exact wpS_nil ⟨rfl, rfl⟩)) z_su ?_; clear z_ex)
      ((repeat refine WpM.seq ?_); refine WpM.condF (by (simp (maxSteps := 2000000) (disch := omega) [go_sem, -List.map_map, h2])) ?_)
      ((repeat refine WpM.seq ?_); have z_ex := (And.intro @h3 True.intro); refine WpM.regPE [] [(0, _), (2, _), (4, _), (78, _), (79, _)] (by (refine s_o [(78, _)] rfl rfl rfl z_su rfl q_full z_fp z_ss ?_; refine s_o [(81, _)] rfl rfl rfl z_su rfl q_move z_fp z_ss ?_; exact wpS_nil ⟨rfl, rfl⟩)) z_su ?_; clear z_ex)
      ((repeat refine WpM.seq ?_); refine WpM.condF (by (simp (maxSteps := 2000000) (disch := omega) [go_sem, -List.map_map, h3])) ?_)
      by_cases h4 : c.kind = 4
      · rw [if_pos h4]
        ((repeat refine WpM.seq ?_); have z_ex := (And.intro @h4 True.intro); refine WpM.regPE [] [(0, _), (2, _), (4, _), (103, _)] (by (refine s_o [(78, _)] rfl rfl rfl z_su rfl q_full z_fp z_ss ?_; refine s_o [(104, _)] rfl rfl rfl z_su rfl q_move z_fp z_ss ?_; exact wpS_nil ⟨rfl, rfl⟩)) z_su ?_; clear z_ex)
        ((repeat refine WpM.seq ?_); refine WpM.condT (by (simp (maxSteps := 2000000) (disch := omega) [go_sem, -List.map_map, h4])) ?_)
        have hie : incB b1 c.key = b1.incs.getD k [] := by rw [incB, hf1]
        have hil := hw1.ilen k
        have k7 := hN.ginc
        have hi0 := hN.inc0 c.key
        have hi1 := hN.inc1 c.key
        have hr1 := q14 c.key
        obtain ⟨l, hl⟩ : ∃ l, l = b1.incs.getD k [] := ⟨_, rfl⟩
        rw [hie] at hi0 hi1 hr1
        rw [← hl] at hi0 hi1 hil hr1 ⊢
        cases hcl : l.getLast? with
        | none =>
          obtain rfl : l = [] := by simpa using hcl
          have k8 := hi0 rfl
          have hinc : incNext [] who = b1.incs.getD k [] ++ [who] := by rw [← hl]; simp [incNext]
          rw [hinc, if_neg (by rw [← hl]; simp)]
          ((repeat refine WpM.seq ?_); have z_ex := (And.intro @hc (And.intro @k1 (And.intro @k7 (And.intro @k8 True.intro)))); refine WpM.drwPE [] [(0, _), (2, _), (4, _), (12, _)] mixed (by kernel_rfl) (by kernel_rfl) [] (by kernel_rfl) (by (refine d_o [(0, _)] rfl rfl rfl z_su rfl q_move z_fp z_ss rfl ?_; refine d_o [(105, _)] rfl rfl rfl z_su rfl q_move z_fp z_ss rfl ?_; refine d_o [(106, _)] rfl rfl rfl z_su rfl q_fieldAddr z_fp z_ss rfl ?_; refine d_o [(107, _)] rfl rfl rfl z_su rfl q_load z_fp z_ss rfl ?_; refine d_o [(4, _)] rfl rfl rfl z_su rfl q_fieldAddr z_fp z_ss rfl ?_; refine d_o [(109, _)] rfl rfl rfl z_su rfl q_load z_fp z_ss rfl ?_; refine d_o [(108, _), (110, _)] rfl rfl rfl z_su rfl q_lookup z_fp z_ss rfl ?_; refine d_o [(111, _)] rfl rfl rfl z_su rfl q_move z_fp z_ss rfl ?_; exact d_end z_mt z_sn)) z_su ?_; clear z_ex)
          ((repeat refine WpM.seq ?_); have z_ex := True.intro; refine WpM.regPE [] [(0, _), (2, _), (4, _), (12, _), (124, _)] (by (refine s_o [(12, _)] rfl rfl rfl z_su rfl q_move z_fp z_ss ?_; refine s_o [(112, _)] rfl rfl rfl z_su rfl q_full z_fp z_ss ?_; refine s_o [(113, _)] rfl rfl rfl z_su rfl q_full z_fp z_ss ?_; refine s_o [(114, _)] rfl rfl rfl z_su rfl q_move z_fp z_ss ?_; refine s_wit ?_; intro z_g; (first | refine s_skip rfl z_g z_fp ?_ | (refine s_o [(12, _)] rfl z_g rfl z_su rfl q_move z_fp z_ss ?_)); clear z_g; refine s_wit ?_; intro z_g; (first | refine s_skip rfl z_g z_fp ?_ | (refine s_o [(12, _)] rfl z_g rfl z_su rfl q_move z_fp z_ss ?_)); clear z_g; refine s_wit ?_; intro z_g; (first | refine s_skip rfl z_g z_fp ?_ | (refine s_o [(117, _)] rfl z_g rfl z_su rfl q_full z_fp z_ss ?_)); clear z_g; refine s_wit ?_; intro z_g; (first | refine s_skip rfl z_g z_fp ?_ | (refine s_o [(118, _)] rfl z_g rfl z_su rfl q_full z_fp z_ss ?_)); clear z_g; refine s_wit ?_; intro z_g; (first | refine s_skip rfl z_g z_fp ?_ | (refine s_o [(116, _), (119, _)] rfl z_g rfl z_su rfl q_full z_fp z_ss ?_)); clear z_g; refine s_wit ?_; intro z_g; (first | refine s_skip rfl z_g z_fp ?_ | (refine s_o [(120, _)] rfl z_g rfl z_su rfl q_load z_fp z_ss ?_)); clear z_g; refine s_wit ?_; intro z_g; (first | refine s_skip rfl z_g z_fp ?_ | (refine s_o [(2, _)] rfl z_g rfl z_su rfl q_move z_fp z_ss ?_)); clear z_g; refine s_wit ?_; intro z_g; (first | refine s_skip rfl z_g z_fp ?_ | (refine s_o [(121, _), (122, _)] rfl z_g rfl z_su rfl q_full z_fp z_ss ?_)); clear z_g; refine s_o [(115, _), (123, _)] rfl rfl rfl z_su rfl q_move z_fp z_ss ?_; exact wpS_nil ⟨rfl, rfl⟩)) z_su ?_; clear z_ex)
          ((repeat refine WpM.seq ?_); refine WpM.condT (by (simp (maxSteps := 2000000) (disch := omega) [go_sem, -List.map_map])) ?_)
          ((repeat refine WpM.seq ?_); have z_ex := (And.intro @hc (And.intro @k1 (And.intro @k7 True.intro))); refine WpM.drwPE [] [(0, _), (4, _)] mixed (by kernel_rfl) (by kernel_rfl) [(3, 8), (5, 8), (3, 9), (5, 9)] (by kernel_rfl) (by (refine d_o [(0, _)] rfl rfl rfl z_su rfl q_move z_fp z_ss rfl ?_; refine d_o [(125, _)] rfl rfl rfl z_su rfl q_move z_fp z_ss rfl ?_; refine d_o [(126, _)] rfl rfl rfl z_su rfl q_fieldAddr z_fp z_ss rfl ?_; refine d_o [(127, _)] rfl rfl rfl z_su rfl q_load z_fp z_ss rfl ?_; refine d_o [(4, _)] rfl rfl rfl z_su rfl q_fieldAddr z_fp z_ss rfl ?_; refine d_o [(129, _)] rfl rfl rfl z_su rfl q_load z_fp z_ss rfl ?_; refine d_o [(12, _)] rfl rfl rfl z_su rfl q_move z_fp z_ss rfl ?_; refine d_o [(2, _)] rfl rfl rfl z_su rfl q_move z_fp z_ss rfl ?_; refine d_o [(132, _)] rfl rfl rfl z_su rfl q_full z_fp z_ss rfl ?_; refine d_o [(131, _), (133, _)] rfl rfl rfl z_su rfl q_full z_fp z_ss rfl ?_; refine d_o [(128, _), (130, _), (134, _)] rfl rfl rfl z_su rfl q_mapUpdate z_fp z_ss rfl ?_; exact d_end z_mt z_sn)) z_su ?_; clear z_ex)
          ((repeat refine WpM.seq ?_); have z_ex := (And.intro @hc (And.intro @k1 (And.intro @updD_same True.intro))); refine WpM.drwPE [] [(143, _)] mixed (by kernel_rfl) (by kernel_rfl) [] (by kernel_rfl) (by (refine d_o [(0, _)] rfl rfl rfl z_su rfl q_move z_fp z_ss rfl ?_; refine d_o [(135, _)] rfl rfl rfl z_su rfl q_move z_fp z_ss rfl ?_; refine d_o [(136, _)] rfl rfl rfl z_su rfl q_fieldAddr z_fp z_ss rfl ?_; refine d_o [(137, _)] rfl rfl rfl z_su rfl q_load z_fp z_ss rfl ?_; refine d_o [(4, _)] rfl rfl rfl z_su rfl q_fieldAddr z_fp z_ss rfl ?_; refine d_o [(139, _)] rfl rfl rfl z_su rfl q_load z_fp z_ss rfl ?_; refine d_o [(138, _), (140, _)] rfl rfl rfl z_su rfl q_lookup z_fp z_ss rfl ?_; refine d_o [(141, _)] rfl rfl rfl z_su rfl q_full z_fp z_ss rfl ?_; refine d_o [(142, _)] rfl rfl rfl z_su rfl q_full z_fp z_ss rfl ?_; exact d_end z_mt z_sn)) z_su ?_; clear z_ex)
          ((repeat refine WpM.seq ?_); refine WpM.condF (by (simp (maxSteps := 2000000) (disch := omega) [go_sem, -List.map_map])) ?_)
          refine WpM.skip ?_
          ((repeat refine WpM.seq ?_); have z_ex := True.intro; refine WpM.regPE [] [(6, _)] (by (refine s_o [] rfl rfl rfl z_su rfl q_move z_fp z_ss ?_; exact wpS_nil ⟨rfl, rfl⟩)) z_su ?_; clear z_ex)
          refine WpM.ret ?_
          refine ⟨.inr rfl, Upd.done ⟨_, (by (simp (maxSteps := 2000000) (disch := omega) [go_sem, -List.map_map, resV, resVs, resV1])), (by show n0 ≤ nx + _; omega), fun m k ho hk => ?_, rfl, _, fun m hm => ?_, LedN.inc (nr := nx + 41) hN hw1 hf1 (fun h => by have := (hO1 _ h).2; omega) (by rw [← hl]; (simp (maxSteps := 2000000) (disch := omega) [go_sem, -List.map_map])) (by rw [← hl]; (simp (maxSteps := 2000000) (disch := omega) [go_sem, -List.map_map])) fun m k h1 h2 ho hk => ?_⟩⟩
          · obtain ⟨h1, h2, h3⟩ := oldO m k ho hk
            have on := fun m (h : O1 m) => (hO1 m h).1
            have h4 : m ≠ ni := fun e => by
              rcases on _ hN.oi with h | h
              · exact ho (e ▸ h)
              · have := hH _ _ hk; omega
            (simp (maxSteps := 2000000) (disch := omega) [go_sem, -List.map_map, h2])
          · rcases hm with hm | rfl
            · have := hO1 m hm; exact ⟨this.1.imp id (fun h => by omega), by show m < nx + _; omega⟩
            · exact ⟨.inr (by omega), by show _ < nx + _; omega⟩
          · have h3 := (hO1 _ ho).2
            have h4 : m ≠ n0 := fun e => on0 (e ▸ ho)
            (simp (maxSteps := 2000000) (disch := omega) [go_sem, -List.map_map, hk])
        | some x =>
          obtain ⟨l0, rfl⟩ : ∃ l0, l = l0 ++ [x] := by
            have hne : l ≠ [] := by rintro rfl; cases hcl
            refine ⟨l.dropLast, ?_⟩
            rw [List.getLast?_eq_some_getLast hne] at hcl
            injection hcl with hcl
            rw [← hcl, List.dropLast_concat_getLast hne]
          have hne : l0 ++ [x] ≠ [] := by simp
          obtain ⟨k8, k9, _, r1, r2⟩ := hi1 hne
          obtain ⟨r3, r4, r5, r6⟩ := hr1 hne
          have gr : r c.key < nx := (hO1 _ (hi1 hne).2.2.1).2
          have hr0 : n0 ≠ r c.key := fun e => on0 (e ▸ (hi1 hne).2.2.1)
          obtain ⟨len, hlen⟩ : ∃ len, len = l0.length := ⟨_, rfl⟩
          have hlx : (l0 ++ [x]).length = len + 1 := by simp [hlen]
          have hget : ((l0 ++ [x]).map fun t => V.d (.int .i64 t))[len]? = some (.d (.int .i64 x)) := by simp [hlen]
          obtain ⟨xs, hxs⟩ : ∃ xs, xs = (l0 ++ [x]).map fun t => V.d (.int .i64 t) := ⟨_, rfl⟩
          have hxl : xs.length = len + 1 := by rw [hxs]; simp [hlen]
          have htk : xs.take (len + 1) = xs := List.take_of_length_le (by omega)
          rw [← hxs] at hget k9
          rw [hlx] at k8 hil
          have hidx : (len : Int) + 1 - 1 = len := by omega
          have hz : ¬ ((len : Int) + 1 = 0) := by omega
          ((repeat refine WpM.seq ?_); have z_ex := (And.intro @hc (And.intro @k1 (And.intro @k7 (And.intro @k8 True.intro)))); refine WpM.drwPE [] [(0, _), (2, _), (4, _), (12, _)] mixed (by kernel_rfl) (by kernel_rfl) [] (by kernel_rfl) (by (refine d_o [(0, _)] rfl rfl rfl z_su rfl q_move z_fp z_ss rfl ?_; refine d_o [(105, _)] rfl rfl rfl z_su rfl q_move z_fp z_ss rfl ?_; refine d_o [(106, _)] rfl rfl rfl z_su rfl q_fieldAddr z_fp z_ss rfl ?_; refine d_o [(107, _)] rfl rfl rfl z_su rfl q_load z_fp z_ss rfl ?_; refine d_o [(4, _)] rfl rfl rfl z_su rfl q_fieldAddr z_fp z_ss rfl ?_; refine d_o [(109, _)] rfl rfl rfl z_su rfl q_load z_fp z_ss rfl ?_; refine d_o [(108, _), (110, _)] rfl rfl rfl z_su rfl q_lookup z_fp z_ss rfl ?_; refine d_o [(111, _)] rfl rfl rfl z_su rfl q_move z_fp z_ss rfl ?_; exact d_end z_mt z_sn)) z_su ?_; clear z_ex)
          by_cases hxw : x = who
          · have hinc : incNext (l0 ++ [x]) who = l0 ++ [x] := by rw [incNext, hcl, if_pos (by rw [hxw])]
            rw [hinc, hlx, if_neg (by omega), hl, set_self]
            ((repeat refine WpM.seq ?_); have z_ex := (And.intro @k9 (And.intro @hget (And.intro @hidx (And.intro @hxl (And.intro @wrap_id (And.intro @hxw (And.intro @hz True.intro))))))); refine WpM.regPE [] [(0, _), (2, _), (4, _), (12, _), (124, _)] (by (refine s_o [(12, _)] rfl rfl rfl z_su rfl q_move z_fp z_ss ?_; refine s_o [(112, _)] rfl rfl rfl z_su rfl q_full z_fp z_ss ?_; refine s_o [(113, _)] rfl rfl rfl z_su rfl q_full z_fp z_ss ?_; refine s_o [(114, _)] rfl rfl rfl z_su rfl q_move z_fp z_ss ?_; refine s_wit ?_; intro z_g; (first | refine s_skip rfl z_g z_fp ?_ | (refine s_o [(12, _)] rfl z_g rfl z_su rfl q_move z_fp z_ss ?_)); clear z_g; refine s_wit ?_; intro z_g; (first | refine s_skip rfl z_g z_fp ?_ | (refine s_o [(12, _)] rfl z_g rfl z_su rfl q_move z_fp z_ss ?_)); clear z_g; refine s_wit ?_; intro z_g; (first | refine s_skip rfl z_g z_fp ?_ | (refine s_o [(117, _)] rfl z_g rfl z_su rfl q_full z_fp z_ss ?_)); clear z_g; refine s_wit ?_; intro z_g; (first | refine s_skip rfl z_g z_fp ?_ | (refine s_o [(118, _)] rfl z_g rfl z_su rfl q_full z_fp z_ss ?_)); clear z_g; refine s_wit ?_; intro z_g; (first | refine s_skip rfl z_g z_fp ?_ | (refine s_o [(116, _), (119, _)] rfl z_g rfl z_su rfl q_full z_fp z_ss ?_)); clear z_g; refine s_wit ?_; intro z_g; (first | refine s_skip rfl z_g z_fp ?_ | (refine s_o [(120, _)] rfl z_g rfl z_su rfl q_load z_fp z_ss ?_)); clear z_g; refine s_wit ?_; intro z_g; (first | refine s_skip rfl z_g z_fp ?_ | (refine s_o [(2, _)] rfl z_g rfl z_su rfl q_move z_fp z_ss ?_)); clear z_g; refine s_wit ?_; intro z_g; (first | refine s_skip rfl z_g z_fp ?_ | (refine s_o [(121, _), (122, _)] rfl z_g rfl z_su rfl q_full z_fp z_ss ?_)); clear z_g; refine s_o [(115, _), (123, _)] rfl rfl rfl z_su rfl q_move z_fp z_ss ?_; exact wpS_nil ⟨rfl, rfl⟩)) z_su ?_; clear z_ex)
            ((repeat refine WpM.seq ?_); refine WpM.condF (by (simp (maxSteps := 2000000) (disch := omega) [go_sem, -List.map_map, hxw])) ?_)
            refine WpM.skip ?_
            ((repeat refine WpM.seq ?_); have z_ex := (And.intro @hc (And.intro @k1 (And.intro @k7 (And.intro @k8 True.intro)))); refine WpM.drwPE [] [(143, _)] mixed (by kernel_rfl) (by kernel_rfl) [] (by kernel_rfl) (by (refine d_o [(0, _)] rfl rfl rfl z_su rfl q_move z_fp z_ss rfl ?_; refine d_o [(135, _)] rfl rfl rfl z_su rfl q_move z_fp z_ss rfl ?_; refine d_o [(136, _)] rfl rfl rfl z_su rfl q_fieldAddr z_fp z_ss rfl ?_; refine d_o [(137, _)] rfl rfl rfl z_su rfl q_load z_fp z_ss rfl ?_; refine d_o [(4, _)] rfl rfl rfl z_su rfl q_fieldAddr z_fp z_ss rfl ?_; refine d_o [(139, _)] rfl rfl rfl z_su rfl q_load z_fp z_ss rfl ?_; refine d_o [(138, _), (140, _)] rfl rfl rfl z_su rfl q_lookup z_fp z_ss rfl ?_; refine d_o [(141, _)] rfl rfl rfl z_su rfl q_full z_fp z_ss rfl ?_; refine d_o [(142, _)] rfl rfl rfl z_su rfl q_full z_fp z_ss rfl ?_; exact d_end z_mt z_sn)) z_su ?_; clear z_ex)
            have hil' : (len : Int) + 1 ≤ 8 := by omega
            ((repeat refine WpM.seq ?_); refine WpM.condF (by (simp (maxSteps := 2000000) (disch := omega) [go_sem, -List.map_map, hil'])) ?_)
            refine WpM.skip ?_
            ((repeat refine WpM.seq ?_); have z_ex := True.intro; refine WpM.regPE [] [(6, _)] (by (refine s_o [] rfl rfl rfl z_su rfl q_move z_fp z_ss ?_; exact wpS_nil ⟨rfl, rfl⟩)) z_su ?_; clear z_ex)
            refine WpM.ret ?_
            refine ⟨.inr rfl, Upd.done ⟨_, (by (simp (maxSteps := 2000000) (disch := omega) [go_sem, -List.map_map, resV, resVs, resV1])), (by show n0 ≤ nx + _; omega), fun m k ho hk => ?_, rfl, O1, fun m hm => ⟨(hO1 m hm).1.imp id (fun h => by omega), ?_⟩, LedAt.same (G := G) ⟨nk, na, nt, nf, ni, am, fm, im, r, hN⟩ fun m k ho hk => ?_⟩⟩
            · obtain ⟨h1, h2, h3⟩ := oldO m k ho hk
              (simp (maxSteps := 2000000) (disch := omega) [go_sem, -List.map_map, h2])
            · have := (hO1 m hm).2; show m < nx + _; omega
            · have h2 := (hO1 _ ho).2
              (simp (maxSteps := 2000000) (disch := omega) [go_sem, -List.map_map, hk])
          · have hinc : incNext (l0 ++ [x]) who = b1.incs.getD k [] ++ [who] := by rw [incNext, hcl, if_neg (by simpa using hxw), ← hl]
            have hill : (b1.incs.getD k [] ++ [who]).length = len + 2 := by rw [← hl]; simp [hlen]
            rw [hinc, hill]
            ((repeat refine WpM.seq ?_); have z_ex := (And.intro @k9 (And.intro @hget (And.intro @hidx (And.intro @hxl (And.intro @wrap_id (And.intro @hxw (And.intro @hz True.intro))))))); refine WpM.regPE [] [(0, _), (2, _), (4, _), (12, _), (124, _)] (by (refine s_o [(12, _)] rfl rfl rfl z_su rfl q_move z_fp z_ss ?_; refine s_o [(112, _)] rfl rfl rfl z_su rfl q_full z_fp z_ss ?_; refine s_o [(113, _)] rfl rfl rfl z_su rfl q_full z_fp z_ss ?_; refine s_o [(114, _)] rfl rfl rfl z_su rfl q_move z_fp z_ss ?_; refine s_wit ?_; intro z_g; (first | refine s_skip rfl z_g z_fp ?_ | (refine s_o [(12, _)] rfl z_g rfl z_su rfl q_move z_fp z_ss ?_)); clear z_g; refine s_wit ?_; intro z_g; (first | refine s_skip rfl z_g z_fp ?_ | (refine s_o [(12, _)] rfl z_g rfl z_su rfl q_move z_fp z_ss ?_)); clear z_g; refine s_wit ?_; intro z_g; (first | refine s_skip rfl z_g z_fp ?_ | (refine s_o [(117, _)] rfl z_g rfl z_su rfl q_full z_fp z_ss ?_)); clear z_g; refine s_wit ?_; intro z_g; (first | refine s_skip rfl z_g z_fp ?_ | (refine s_o [(118, _)] rfl z_g rfl z_su rfl q_full z_fp z_ss ?_)); clear z_g; refine s_wit ?_; intro z_g; (first | refine s_skip rfl z_g z_fp ?_ | (refine s_o [(116, _), (119, _)] rfl z_g rfl z_su rfl q_full z_fp z_ss ?_)); clear z_g; refine s_wit ?_; intro z_g; (first | refine s_skip rfl z_g z_fp ?_ | (refine s_o [(120, _)] rfl z_g rfl z_su rfl q_load z_fp z_ss ?_)); clear z_g; refine s_wit ?_; intro z_g; (first | refine s_skip rfl z_g z_fp ?_ | (refine s_o [(2, _)] rfl z_g rfl z_su rfl q_move z_fp z_ss ?_)); clear z_g; refine s_wit ?_; intro z_g; (first | refine s_skip rfl z_g z_fp ?_ | (refine s_o [(121, _), (122, _)] rfl z_g rfl z_su rfl q_full z_fp z_ss ?_)); clear z_g; refine s_o [(115, _), (123, _)] rfl rfl rfl z_su rfl q_move z_fp z_ss ?_; exact wpS_nil ⟨rfl, rfl⟩)) z_su ?_; clear z_ex)
            ((repeat refine WpM.seq ?_); refine WpM.condT (by (simp (maxSteps := 2000000) (disch := omega) [go_sem, -List.map_map, hxw])) ?_)
            ((repeat refine WpM.seq ?_); have z_ex := (And.intro @hc (And.intro @k1 (And.intro @k7 (And.intro @k9 (And.intro @hxl (And.intro @htk True.intro)))))); refine WpM.drwPE [] [(0, _), (4, _)] mixed (by kernel_rfl) (by kernel_rfl) [(3, 8), (5, 8), (3, 9), (5, 9)] (by kernel_rfl) (by (refine d_o [(0, _)] rfl rfl rfl z_su rfl q_move z_fp z_ss rfl ?_; refine d_o [(125, _)] rfl rfl rfl z_su rfl q_move z_fp z_ss rfl ?_; refine d_o [(126, _)] rfl rfl rfl z_su rfl q_fieldAddr z_fp z_ss rfl ?_; refine d_o [(127, _)] rfl rfl rfl z_su rfl q_load z_fp z_ss rfl ?_; refine d_o [(4, _)] rfl rfl rfl z_su rfl q_fieldAddr z_fp z_ss rfl ?_; refine d_o [(129, _)] rfl rfl rfl z_su rfl q_load z_fp z_ss rfl ?_; refine d_o [(12, _)] rfl rfl rfl z_su rfl q_move z_fp z_ss rfl ?_; refine d_o [(2, _)] rfl rfl rfl z_su rfl q_move z_fp z_ss rfl ?_; refine d_o [(132, _)] rfl rfl rfl z_su rfl q_full z_fp z_ss rfl ?_; refine d_o [(131, _), (133, _)] rfl rfl rfl z_su rfl q_full z_fp z_ss rfl ?_; refine d_o [(128, _), (130, _), (134, _)] rfl rfl rfl z_su rfl q_mapUpdate z_fp z_ss rfl ?_; exact d_end z_mt z_sn)) z_su ?_; clear z_ex)
            ((repeat refine WpM.seq ?_); have z_ex := (And.intro @hc (And.intro @k1 (And.intro @updD_same True.intro))); refine WpM.drwPE [] [(143, _)] mixed (by kernel_rfl) (by kernel_rfl) [] (by kernel_rfl) (by (refine d_o [(0, _)] rfl rfl rfl z_su rfl q_move z_fp z_ss rfl ?_; refine d_o [(135, _)] rfl rfl rfl z_su rfl q_move z_fp z_ss rfl ?_; refine d_o [(136, _)] rfl rfl rfl z_su rfl q_fieldAddr z_fp z_ss rfl ?_; refine d_o [(137, _)] rfl rfl rfl z_su rfl q_load z_fp z_ss rfl ?_; refine d_o [(4, _)] rfl rfl rfl z_su rfl q_fieldAddr z_fp z_ss rfl ?_; refine d_o [(139, _)] rfl rfl rfl z_su rfl q_load z_fp z_ss rfl ?_; refine d_o [(138, _), (140, _)] rfl rfl rfl z_su rfl q_lookup z_fp z_ss rfl ?_; refine d_o [(141, _)] rfl rfl rfl z_su rfl q_full z_fp z_ss rfl ?_; refine d_o [(142, _)] rfl rfl rfl z_su rfl q_full z_fp z_ss rfl ?_; exact d_end z_mt z_sn)) z_su ?_; clear z_ex)
            by_cases h8 : 8 < len + 2
            · rw [if_pos h8]
              have h8' : (8 : Int) < len + 2 := by omega
              ((repeat refine WpM.seq ?_); refine WpM.condT (by (simp (maxSteps := 2000000) (disch := omega) [go_sem, -List.map_map, h8'])) ?_)
              ((repeat refine WpM.seq ?_); have z_ex := True.intro; refine WpM.regPE [] [(6, _)] (by (refine s_o [] rfl rfl rfl z_su rfl q_move z_fp z_ss ?_; exact wpS_nil ⟨rfl, rfl⟩)) z_su ?_; clear z_ex)
              refine WpM.ret ?_
              refine ⟨.inr rfl, Upd.done ⟨_, (by (simp (maxSteps := 2000000) (disch := omega) [go_sem, -List.map_map, resV, resVs, resV1])), (by show n0 ≤ nx + _; omega), fun m k ho hk => ?_, rfl, by decide⟩⟩
              obtain ⟨h1, h2, h3⟩ := oldO m k ho hk
              have on := fun m (h : O1 m) => (hO1 m h).1
              have h5 : m ≠ r c.key := fun e => by
                rcases on _ (hi1 hne).2.2.1 with h | h
                · exact ho (e ▸ h)
                · have := hH _ _ hk; omega
              have h4 : m ≠ ni := fun e => by
                rcases on _ hN.oi with h | h
                · exact ho (e ▸ h)
                · have := hH _ _ hk; omega
              (simp (maxSteps := 2000000) (disch := omega) [go_sem, -List.map_map, h2])
            · rw [if_neg h8]
              have h8' : (len : Int) + 2 ≤ 8 := by omega
              ((repeat refine WpM.seq ?_); refine WpM.condF (by (simp (maxSteps := 2000000) (disch := omega) [go_sem, -List.map_map, h8'])) ?_)
              refine WpM.skip ?_
              ((repeat refine WpM.seq ?_); have z_ex := True.intro; refine WpM.regPE [] [(6, _)] (by (refine s_o [] rfl rfl rfl z_su rfl q_move z_fp z_ss ?_; exact wpS_nil ⟨rfl, rfl⟩)) z_su ?_; clear z_ex)
              refine WpM.ret ?_
              refine ⟨.inr rfl, Upd.done ⟨_, (by (simp (maxSteps := 2000000) (disch := omega) [go_sem, -List.map_map, resV, resVs, resV1])), (by show n0 ≤ nx + _; omega), fun m k ho hk => ?_, rfl, _, fun m hm => ?_, LedN.inc (nr := nx + 49) hN hw1 hf1 (fun h => by have := (hO1 _ h).2; omega) (by rw [← hl]; (simp (maxSteps := 2000000) (disch := omega) [go_sem, -List.map_map, hlen])) (by rw [← hl]; (simp (maxSteps := 2000000) (disch := omega) [go_sem, -List.map_map, hxs])) fun m k h1 h2 ho hk => ?_⟩⟩
              · obtain ⟨h1, h2, h3⟩ := oldO m k ho hk
                have on := fun m (h : O1 m) => (hO1 m h).1
                have h5 : m ≠ r c.key := fun e => by
                  rcases on _ (hi1 hne).2.2.1 with h | h
                  · exact ho (e ▸ h)
                  · have := hH _ _ hk; omega
                have h4 : m ≠ ni := fun e => by
                  rcases on _ hN.oi with h | h
                  · exact ho (e ▸ h)
                  · have := hH _ _ hk; omega
                (simp (maxSteps := 2000000) (disch := omega) [go_sem, -List.map_map, h2])
              · rcases hm with hm | rfl
                · have := hO1 m hm; exact ⟨this.1.imp id (fun h => by omega), by show m < nx + _; omega⟩
                · exact ⟨.inr (by omega), by show _ < nx + _; omega⟩
              · have h3 := (hO1 _ ho).2
                have h5 : m ≠ r c.key := h2 (by rw [hie, ← hl]; exact hne)
                have h4 : m ≠ n0 := fun e => on0 (e ▸ ho)
                (simp (maxSteps := 2000000) (disch := omega) [go_sem, -List.map_map, hk])
      · rw [if_neg h4]
        ((repeat refine WpM.seq ?_); have z_ex := (And.intro @h4 True.intro); refine WpM.regPE [] [(0, _), (2, _), (4, _), (103, _)] (by (refine s_o [(78, _)] rfl rfl rfl z_su rfl q_full z_fp z_ss ?_; refine s_o [(104, _)] rfl rfl rfl z_su rfl q_move z_fp z_ss ?_; exact wpS_nil ⟨rfl, rfl⟩)) z_su ?_; clear z_ex)
        ((repeat refine WpM.seq ?_); refine WpM.condF (by (simp (maxSteps := 2000000) (disch := omega) [go_sem, -List.map_map, h4])) ?_)
        refine WpM.skip ?_
        ((repeat refine WpM.seq ?_); have z_ex := True.intro; refine WpM.regPE [] [(6, _)] (by (refine s_o [] rfl rfl rfl z_su rfl q_move z_fp z_ss ?_; exact wpS_nil ⟨rfl, rfl⟩)) z_su ?_; clear z_ex)
        refine WpM.ret ?_
        refine ⟨.inr rfl, Upd.done ⟨_, (by (simp (maxSteps := 2000000) (disch := omega) [go_sem, -List.map_map, resV, resVs, resV1])), (by show n0 ≤ nx + _; omega), fun m k ho hk => ?_, rfl, O1, fun m hm => ⟨(hO1 m hm).1.imp id (fun h => by omega), ?_⟩, LedAt.same (G := G) ⟨nk, na, nt, nf, ni, am, fm, im, r, hN⟩ fun m k ho hk => ?_⟩⟩
        · obtain ⟨h1, h2, h3⟩ := oldO m k ho hk
          (simp (maxSteps := 2000000) (disch := omega) [go_sem, -List.map_map, h2])
        · have := (hO1 m hm).2; show m < nx + _; omega
        · have h2 := (hO1 _ ho).2
          (simp (maxSteps := 2000000) (disch := omega) [go_sem, -List.map_map, hk])
  · ((repeat refine WpM.seq ?_); refine WpM.condT (by (simp (maxSteps := 2000000) (disch := omega) [go_sem, -List.map_map, hty])) ?_)
    have hput : putB b1 k c who = .error 50 := by rw [putB, ← hty0, if_pos hty]
    rw [hput]
    ((repeat refine WpM.seq ?_); have z_ex := True.intro; refine WpM.regPE [] [(6, _)] (by (refine s_o [] rfl rfl rfl z_su rfl q_move z_fp z_ss ?_; exact wpS_nil ⟨rfl, rfl⟩)) z_su ?_; clear z_ex)
    refine WpM.ret ?_
    refine ⟨.inr rfl, Upd.done ⟨_, (by (simp (maxSteps := 2000000) (disch := omega) [go_sem, -List.map_map, resV, resVs, resV1])), (by show n0 ≤ nx + _; omega), fun m k ho hk => ?_, rfl, by decide⟩⟩
    obtain ⟨h1, h2, h3⟩ := oldO m k ho hk
    (simp (maxSteps := 2000000) (disch := omega) [go_sem, -List.map_map, h2])
end Go.Proofs.Ytjjmedgibcffhaa
/- index.newLedger, index.calls, both placed, names. -/
namespace Go.Proofs.Ytjjmedgibcffhaa
open Go.RowKit M
set_option linter.unusedSimpArgs false
set_option linter.unusedVariables false
theorem new47 (S : St) : CallM Try.prog 47 [] S fun r S' => ∃ L O, r = .ptr L 0 ∧ LedAt S'.get L Bk.empty O ∧ (∀ m, O m → S.next ≤ m ∧ m < S'.next) ∧ S.next ≤ S'.next ∧ ∀ m k, S.get m = some k → S'.get m = some k := by
  refine CallM.start (n := 6) Try.func47 rfl rfl (by simp) (by simp only [argL, Nat.reduceAdd] <;> rfl) ?_
  intro hH
  obtain ⟨H, hHe⟩ : ∃ H, H = S.get := ⟨_, rfl⟩
  obtain ⟨n0, hne⟩ : ∃ n0, n0 = S.next := ⟨_, rfl⟩
  rw [← hHe, ← hne] at hH ⊢
  ((repeat refine WpM.seq ?_); have z_ex := True.intro; refine WpM.regPE [] [] (by (refine s_o [] rfl rfl rfl z_su rfl q_move z_fp z_ss ?_; exact wpS_nil ⟨rfl, rfl⟩)) z_su ?_; clear z_ex)
  ((repeat refine WpM.seq ?_); have z_ex := True.intro; refine WpM.regPE [] [(0, _)] (by (refine s_o [] rfl rfl rfl z_su rfl q_makeMap z_fp z_ss ?_; refine s_o [] rfl rfl rfl z_su rfl q_makeMap z_fp z_ss ?_; refine s_o [] rfl rfl rfl z_su rfl q_makeMap z_fp z_ss ?_; refine s_o [(1, _), (2, _), (3, _)] rfl rfl rfl z_su rfl q_build z_fp z_ss ?_; refine s_o [(4, _)] rfl rfl rfl z_su rfl q_box z_fp z_ss ?_; refine s_o [(5, _)] rfl rfl rfl z_su rfl q_move z_fp z_ss ?_; exact wpS_nil ⟨rfl, rfl⟩)) z_su ?_; clear z_ex)
  refine WpM.ret ?_
  refine ⟨.inr rfl, Upd.ghostIn (n0 + 5) 0 1 (cs := [.nil, .map (n0 + 1), .nil, .map (n0 + 2), .map (n0 + 3)]) (by (simp (maxSteps := 2000000) (disch := omega) [go_sem, -List.map_map])) (.inl rfl) (Upd.ghostIn (n0 + 5) 2 1 (cs := [.ms (n0 + 7) 1 0 0, .map (n0 + 1), .nil, .map (n0 + 2), .map (n0 + 3)]) (by (simp (maxSteps := 2000000) (disch := omega) [go_sem, -List.map_map])) (.inl rfl) (Upd.done ?_))⟩
  refine ⟨_, (by (simp (maxSteps := 2000000) (disch := omega) [go_sem, -List.map_map, resV, resVs, resV1])), n0 + 5, fun m => n0 ≤ m ∧ m < n0 + 9, rfl, ⟨n0 + 7, n0 + 1, n0 + 8, n0 + 2, n0 + 3, fun _ => none, fun _ => none, fun _ => none, fun _ => 0, ?_⟩, fun m hm => ⟨hm.1, ?_⟩, ?_, fun m k hk => ?_⟩
  · refine ⟨by (simp (maxSteps := 2000000) (disch := omega) [go_sem, -List.map_map, Bk.empty]), by (simp (maxSteps := 2000000) (disch := omega) [go_sem, -List.map_map, Bk.empty]), by (simp (maxSteps := 2000000) (disch := omega) [go_sem, -List.map_map, Bk.empty]), by (simp (maxSteps := 2000000) (disch := omega) [go_sem, -List.map_map]), by (simp (maxSteps := 2000000) (disch := omega) [go_sem, -List.map_map]), by (simp (maxSteps := 2000000) (disch := omega) [go_sem, -List.map_map]), fun s => rfl, fun s i => rfl, fun s _ => rfl, fun s hs => absurd rfl hs, fun s s' hs => absurd rfl hs, ?_, ?_, ?_, ?_, ?_, ?_, ?_, ?_⟩ <;> omega
  · have := hm.2; show m < n0 + 9; exact this
  · show n0 ≤ n0 + 9; omega
  · have := hH _ _ hk
    (simp (maxSteps := 2000000) (disch := omega) [go_sem, -List.map_map, hk])
end Go.Proofs.Ytjjmedgibcffhaa
/- A nil slice in a cell of a struct as pure data. -/
namespace Go.Proofs.Ytjjmedgibcffhaa.M
open Go.RowKit
set_option linter.unusedVariables false
set_option linter.unusedSimpArgs false
theorem Upd.nilIn {n : Nat} {fr : Fr} {S : St} {K : Fr → St → Prop} (bx j : Nat) {cs : List V} (hb : S.get bx = some (.box cs)) (ht : cs[j]? = some .nil ∨ cs[j]? = some .e0) (h : Upd n fr (S.set bx (some (.box (cs.set j (.d (.sl [])))))) K) : Upd n fr S K := by
  intro g w a hi
  have hlen : j < cs.length := by rcases ht with ht | ht <;> exact (List.getElem?_eq_some_iff.1 ht).1
  obtain ⟨hU, b0, vs, tt, f1, f2, f3, f4⟩ := hi.rs.ok _ _ hb
  have hcell : RV g w (.d (.sl [])) (vs.getD j undef) := by
    rcases ht with ht | ht
    · have := f4 j _ ht
      generalize vs.getD j undef = v at this
      cases this
      exact .d (.slNil _ _)
    · have := f4 j _ ht
      generalize vs.getD j undef = v at this
      cases this
      exact .d (.slNil _ _)
  have hrs : RS g w (hset S.get bx (some (.box (cs.set j (.d (.sl [])))))) := by
    refine (hi.rs.write (w' := w) (k' := .box (cs.set j (.d (.sl [])))) hb f1 (fun _ _ => rfl) rfl rfl rfl rfl (fun _ => ⟨b0, vs, tt, f1, f2, by simpa using f3, fun j' y hy => ?_⟩)).2
    rw [List.getElem?_set] at hy
    split at hy
    · rename_i e
      subst e
      try rw [if_pos hlen] at hy
      injection hy with hy
      subst hy
      exact hcell
    · exact f4 j' y hy
  have hi' : Inv n g w fr (S.set bx (some (.box (cs.set j (.d (.sl [])))))) a := ⟨by rw [St.get_set]; exact hrs, hi.lt, hi.rf⟩
  exact h g w a hi'
/-- Nil cells of a struct in a row as pure data. -/
def nilC : V → V
  | .nil => .d (.sl [])
  | x => x
theorem nilC_rv {g : Gh} {w : World} {x : V} {v : Value} (h : RV g w x v) : RV g w (nilC x) v := by
  unfold nilC
  split
  · cases h
    exact .d (.slNil _ _)
  · exact h
theorem Upd.rowNil {n : Nat} {fr : Fr} {S : St} {K : Fr → St → Prop} (nm : Nat) {sz : Nat} {ys : List V} (hb : S.get nm = some (.row sz [.agg ys])) (h : Upd n fr (S.set nm (some (.row sz [mkAgg (ys.map nilC)]))) K) : Upd n fr S K := by
  intro g w a hi
  obtain ⟨hU, h1, h2, h3, h4⟩ := hi.rs.ok _ _ hb
  have hys : ys.length = sz := by simpa [V.cells] using h3 0 (.agg ys) rfl
  rcases h4 with ⟨_, h5⟩ | ⟨b0, vs, tt, f1, f2, f3, f4⟩
  · cases h5
  · have hcells : (mkAgg (ys.map nilC)).cells = ys.map nilC := by
      unfold mkAgg
      split
      · rename_i ds hd
        have := allD_some hd
        rw [this]
        rfl
      · rfl
    have hrs : RS g w (hset S.get nm (some (.row sz [mkAgg (ys.map nilC)]))) := by
      refine (hi.rs.write (w' := w) (k' := .row sz [mkAgg (ys.map nilC)]) hb f1 (fun _ _ => rfl) rfl rfl rfl rfl (fun _ => ⟨h1, by simpa using h2, fun i x hx => ?_, .inr ⟨b0, vs, tt, f1, f2, f3, fun i j x y hx hy => ?_⟩⟩)).2
      · cases i with
        | zero => simp at hx; subst hx; rw [hcells]; simpa using hys
        | succ i => simp at hx
      · cases i with
        | zero =>
          simp at hx
          subst hx
          rw [hcells, List.getElem?_map, Option.map_eq_some_iff] at hy
          obtain ⟨z, hz, rfl⟩ := hy
          exact nilC_rv (f4 0 j (.agg ys) z rfl hz)
        | succ i => simp at hx
    exact h g w a ⟨by rw [St.get_set]; exact hrs, hi.lt, hi.rf⟩
end Go.Proofs.Ytjjmedgibcffhaa.M
/- index.Build. -/
namespace Go.Proofs.Ytjjmedgibcffhaa
open Go.RowKit M
set_option linter.unusedSimpArgs false
set_option linter.unusedVariables false
/-- What stands while a history is built. -/
structure BInv (At : (Nat → Option Blk) → Nat → Bk → (Nat → Prop) → Prop) (H : Nat → Option Blk) (n0 L nh nr : Nat) (ts : List TxnD) (b : Bk) (O : Nat → Prop) (G : Nat → Option Blk) (nx : Nat) : Prop where
  r2 : G n0 = some (.box [.nil, .nil])
  r3 : G (n0 + 1) = some (.box [.d (.int .i64 0), .d (.int .i64 0)])
  hb : G nh = some (.box [.nil, .ms nr 5 0 ts.length])
  hr : G nr = some (.row 5 (ts.map fun t => .d (encTxn t)))
  led : At G L b O
  oo : ∀ m, O m → n0 + 2 ≤ m ∧ m < nx
  o1 : ¬ O nh
  o2 : ¬ O nr
  l1 : n0 + 2 ≤ nh ∧ nh < nx
  l2 : n0 + 2 ≤ nr ∧ nr < nx
  old : ∀ m k, H m = some k → G m = some k
theorem BInv.enter {At : (Nat → Option Blk) → Nat → Bk → (Nat → Prop) → Prop} {H : Nat → Option Blk} {n0 L nh nr : Nat} {ts : List TxnD} {b b' : Bk} {O O' : Nat → Prop} {G G' : Nat → Option Blk} {nx nx' : Nat} (h : BInv At H n0 L nh nr ts b O G nx)
    (hH : ∀ m k, H m = some k → m < n0) (hnx : nx ≤ nx') (hold : ∀ m k, ¬ O m → G m = some k → G' m = some k) (hO : ∀ m, O' m → (O m ∨ nx ≤ m) ∧ m < nx') (hl : At G' L b' O') : BInv At H n0 L nh nr ts b' O' G' nx' := by
  have hn : ∀ m, m < n0 + 2 → ¬ O m := fun m hm ho => by have := (h.oo m ho).1; omega
  refine ⟨hold _ _ (hn _ (by omega)) h.r2, hold _ _ (hn _ (by omega)) h.r3, hold _ _ h.o1 h.hb, hold _ _ h.o2 h.hr, hl, fun m hm => ?_, fun hm => ?_, fun hm => ?_, ⟨h.l1.1, by have := h.l1.2; omega⟩, ⟨h.l2.1, by have := h.l2.2; omega⟩, fun m k hk => hold m k (hn m (by have := hH m k hk; omega)) (h.old m k hk)⟩
  · obtain ⟨h1, h2⟩ := hO m hm
    refine ⟨?_, h2⟩
    rcases h1 with h1 | h1
    · exact (h.oo m h1).1
    · have := h.l1; omega
  · rcases (hO _ hm).1 with h1 | h1
    · exact h.o1 h1
    · have := h.l1; omega
  · rcases (hO _ hm).1 with h1 | h1
    · exact h.o2 h1
    · have := h.l2; omega
theorem BInv.same {At : (Nat → Option Blk) → Nat → Bk → (Nat → Prop) → Prop} {H : Nat → Option Blk} {n0 L nh nr : Nat} {ts : List TxnD} {b : Bk} {O : Nat → Prop} {G G' : Nat → Option Blk} {nx nx' : Nat} (h : BInv At H n0 L nh nr ts b O G nx)
    (hsame : ∀ {G G' : Nat → Option Blk}, At G L b O → (∀ m k, O m → G m = some k → G' m = some k) → At G' L b O)
    (hH : ∀ m k, H m = some k → m < n0) (hnx : nx ≤ nx') (hold : ∀ m k, m < nx → G m = some k → G' m = some k) : BInv At H n0 L nh nr ts b O G' nx' := by
  have l1 := h.l1
  have l2 := h.l2
  exact ⟨hold _ _ (by omega) h.r2, hold _ _ (by omega) h.r3, hold _ _ l1.2 h.hb, hold _ _ l2.2 h.hr, hsame h.led fun m k ho hk => hold m k (h.oo m ho).2 hk, fun m hm => ⟨(h.oo m hm).1, by have := (h.oo m hm).2; omega⟩, h.o1, h.o2, ⟨l1.1, by omega⟩, ⟨l2.1, by omega⟩,
    fun m k hk => hold m k (by have := hH m k hk; omega) (h.old m k hk)⟩
/-- A transaction more. -/
theorem BInv.push {At : (Nat → Option Blk) → Nat → Bk → (Nat → Prop) → Prop} {H : Nat → Option Blk} {n0 L nh nr nr' : Nat} {ts : List TxnD} {t : TxnD} {b : Bk} {O : Nat → Prop} {G G' : Nat → Option Blk} {nx nx' : Nat} (h : BInv At H n0 L nh nr ts b O G nx)
    (hsame : ∀ {G G' : Nat → Option Blk}, At G L b O → (∀ m k, O m → G m = some k → G' m = some k) → At G' L b O)
    (hH : ∀ m k, H m = some k → m < n0) (hnx : nx ≤ nr') (hnr : nr' < nx') (hb : G' nh = some (.box [.nil, .ms nr' 5 0 (ts.length + 1)])) (hr : G' nr' = some (.row 5 ((ts.map fun t => .d (encTxn t)) ++ [.d (encTxn t)])))
    (hold : ∀ m k, m < nx → m ≠ nh → m ≠ nr → G m = some k → G' m = some k) : BInv At H n0 L nh nr' (ts ++ [t]) b O G' nx' := by
  have l1 := h.l1
  have l2 := h.l2
  refine ⟨hold _ _ (by omega) (by omega) (by omega) h.r2, hold _ _ (by omega) (by omega) (by omega) h.r3, by rw [hb]; simp, by rw [hr]; simp, hsame h.led fun m k ho hk => hold m k (h.oo m ho).2 (fun e => h.o1 (e ▸ ho)) (fun e => h.o2 (e ▸ ho)) hk, fun m hm => ⟨(h.oo m hm).1, by have := (h.oo m hm).2; omega⟩, h.o1, fun hm => by have := (h.oo _ hm).2; omega, ⟨l1.1, by omega⟩, ⟨by omega, by omega⟩,
    fun m k hk => ?_⟩
  have := hH m k hk
  exact hold m k (by omega) (by omega) (by omega) (h.old m k hk)
theorem enter48_in {b : Bk} {n : Nat} (hw : b.Wf n) (c : CallD) (hk1 : 1 ≤ c.kind) (hk8 : c.kind ≤ 8) (who : Int) (res : Except Int Bk) (hres : enterB b c who = res) {L : Nat} {O : Nat → Prop} {G : Nat → Option Blk} {nx : Nat} (hAt : LedAt G L b O) (hO : ∀ m, O m → m < nx) (hGk : ∀ m k, G m = some k → m < nx)
    (nn nq : Nat) (q : Option Blk) (h1 : nx ≤ nq) (h2 : nx ≤ nn) :
    CallM Try.prog 48 [.ptr L 0, .d (.agg [.int .i64 c.kind, .str c.key, .int .i64 c.arg, .bool c.got, .sl (c.vals.map (D.int .i64))]), .d (.int .i64 who)] ⟨nn, [(nq, q)], G⟩ fun r S' => EntP LedAt nx G L O res r S' := by
  have hget : ∀ m, m < nx → St.get ⟨nn, [(nq, q)], G⟩ m = G m := fun m hm => by
    have : m ≠ nq := by omega
    (simp (maxSteps := 2000000) (disch := omega) [go_sem, -List.map_map])
  have hE := enter48 b n hw c hk1 hk8 who L O ⟨nn, [(nq, q)], G⟩ (hAt.same fun m k ho hk => by rw [hget m (hO m ho)]; exact hk) (fun m hm => Nat.lt_of_lt_of_le (hO m hm) h2)
  rw [hres] at hE
  refine hE.mono ?_
  rintro r S' ⟨a1, a2, a3⟩
  refine ⟨Nat.le_trans h2 a1, fun m k ho hk => a2 m k ho (by rw [hget m (hGk m k hk)]; exact hk), ?_⟩
  cases res with
  | error e => exact a3
  | ok b' =>
    obtain ⟨b1, O', b2, b3⟩ := a3
    exact ⟨b1, O', fun m hm => ⟨(b2 m hm).1.imp id (fun h => Nat.le_trans h2 h), (b2 m hm).2⟩, b3⟩
theorem clone49' (c : List Int) (hlen : c.length * 8 ≤ 140737488351232) : PureC Try.prog 49 [.d (.sl (c.map (D.int .i64)))] (.d (.sl (c.map (D.int .i64)))) := by
  refine PureC.of (n := 8) Try.func49 rfl rfl (by simp) (by simp only [argL, Nat.reduceAdd] <;> rfl) rfl ?_
  intro n0 H hH
  cases c with
  | nil =>
    ((repeat refine WpM.seq ?_); have z_ex := True.intro; refine WpM.regPE [] [(0, _)] (by (refine s_o [] rfl rfl rfl z_su rfl q_move z_fp z_ss ?_; exact wpS_nil ⟨rfl, rfl⟩)) z_su ?_; clear z_ex)
    ((repeat refine WpM.seq ?_); have z_ex := True.intro; refine WpM.regP [] ?_; intro K hK; refine s_o [(0, _)] rfl rfl rfl z_su rfl q_move z_fp z_ss ?_; refine wpS_cmp rfl rfl rfl rfl z_lk un44 ?_; intro z_b; refine s_put z_fp ?_; refine s_endE [(0, _), (4, _)] hK z_su ?_; clear hK K; clear z_ex)
    cases z_b with
    | true =>
      ((repeat refine WpM.seq ?_); refine WpM.condT (by (simp (maxSteps := 2000000) (disch := omega) [go_sem, -List.map_map])) ?_)
      ((repeat refine WpM.seq ?_); have z_ex := True.intro; refine WpM.regPE [] [(2, _)] (by (refine s_o [] rfl rfl rfl z_su rfl q_move z_fp z_ss ?_; exact wpS_nil ⟨rfl, rfl⟩)) z_su ?_; clear z_ex)
      refine WpM.ret ?_
      refine ⟨.inr rfl, Upd.pureNil 2 (.inl (by (simp (maxSteps := 2000000) (disch := omega) [go_sem, -List.map_map]))) (Upd.done ?_)⟩
      (simp (maxSteps := 2000000) (disch := omega) [go_sem, -List.map_map, resV, resVs, resV1, fset])
    | false =>
      ((repeat refine WpM.seq ?_); refine WpM.condF (by (simp (maxSteps := 2000000) (disch := omega) [go_sem, -List.map_map])) ?_)
      refine WpM.skip ?_
      ((repeat refine WpM.seq ?_); have z_ex := True.intro; refine WpM.regPE [7] [(2, _)] (by (refine s_o [] rfl rfl rfl z_su rfl q_full z_fp z_ss ?_; refine s_o [(0, _)] rfl rfl rfl z_su rfl q_move z_fp z_ss ?_; refine s_o [(5, _), (6, _)] rfl rfl rfl z_su rfl q_full z_fp z_ss ?_; refine s_o [(7, _)] rfl rfl rfl z_su rfl q_move z_fp z_ss ?_; exact wpS_nil ⟨rfl, rfl⟩)) z_su ?_; clear z_ex)
      (refine WpM.ret ?_; refine ⟨.inr rfl, Upd.done ?_⟩; (simp (maxSteps := 2000000) (disch := omega) [go_sem, -List.map_map, resV, resVs, resV1,]))
  | cons a r =>
    ((repeat refine WpM.seq ?_); have z_ex := True.intro; refine WpM.regPE [] [(0, _)] (by (refine s_o [] rfl rfl rfl z_su rfl q_move z_fp z_ss ?_; exact wpS_nil ⟨rfl, rfl⟩)) z_su ?_; clear z_ex)
    ((repeat refine WpM.seq ?_); have z_ex := True.intro; refine WpM.regPE [] [(0, _), (4, _)] (by (refine s_o [(0, _)] rfl rfl rfl z_su rfl q_move z_fp z_ss ?_; refine s_o [(3, _)] rfl rfl rfl z_su rfl q_full z_fp z_ss ?_; exact wpS_nil ⟨rfl, rfl⟩)) z_su ?_; clear z_ex)
    ((repeat refine WpM.seq ?_); refine WpM.condF (by (simp (maxSteps := 2000000) (disch := omega) [go_sem, -List.map_map])) ?_)
    refine WpM.skip ?_
    simp only [List.length_cons] at hlen
    ((repeat refine WpM.seq ?_); have z_ex := True.intro; refine WpM.regPE [7] [(2, _)] (by (refine s_o [] rfl rfl rfl z_su rfl q_full z_fp z_ss ?_; refine s_o [(0, _)] rfl rfl rfl z_su rfl q_move z_fp z_ss ?_; refine s_o [(5, _), (6, _)] rfl rfl rfl z_su rfl q_full z_fp z_ss ?_; refine s_o [(7, _)] rfl rfl rfl z_su rfl q_move z_fp z_ss ?_; exact wpS_nil ⟨rfl, rfl⟩)) z_su ?_; clear z_ex)
    (refine WpM.ret ?_; refine ⟨.inr rfl, Upd.done ?_⟩; (simp (maxSteps := 2000000) (disch := omega) [go_sem, -List.map_map, resV, resVs, resV1,]))
theorem callsFor_ok {l : List EventD} (hok : SlOk EventOk 40 l) {p : PairD} (h : PairOk l p) : ∀ c ∈ callsFor l p, CallOk c := by
  intro c hc
  unfold callsFor at hc
  split at hc
  · rename_i hs
    obtain ⟨t, h1, h2, h3, h4⟩ := h.to_ hs
    rw [h1, show ((t : Int)).toNat = t by simp, ev_eq h2] at hc
    exact (hok.2 l[t] (List.getElem_mem _)).2.2.2 c hc
  · rw [ev_eq h.frm] at hc
    exact (hok.2 (l[p.from_]'h.frm) (List.getElem_mem _)).2.2.2 c hc
def fltV (e : Int × Int) : V := .d (.agg [.int .i64 e.1, .int .i64 e.2])
/-- What Build answers. -/
noncomputable def buildV (l : List EventD) : V := .tup [.d (encHist (buildF l).1), fltV (buildF l).2]
set_option maxHeartbeats 8000000 in
theorem build28 (l : List EventD) (hok : SlOk EventOk 40 l) : PureC Try.prog 28 [.d (evs l)] (buildV l) := by
  intro S
  refine CallM.pure' (by rfl) (CallM.start (n := 130) Try.func28 rfl rfl (by simp) (by simp only [argL, Nat.reduceAdd] <;> rfl) ?_)
  intro hH
  obtain ⟨H, hHe⟩ : ∃ H, H = S.get := ⟨_, rfl⟩
  obtain ⟨n0, hne⟩ : ∃ n0, n0 = S.next := ⟨_, rfl⟩
  rw [← hHe, ← hne] at hH ⊢
  have hpairs := pairs19 l hok
  ((repeat refine WpM.seq ?_); have z_ex := True.intro; refine WpM.regPE [] [(0, _), (2, _), (3, _)] (by (refine s_o [] rfl rfl rfl z_su rfl q_alloc z_fp z_ss ?_; refine s_o [] rfl rfl rfl z_su rfl q_alloc z_fp z_ss ?_; exact wpS_nil ⟨rfl, rfl⟩)) z_su ?_; clear z_ex)
  cases hp : pairsF l with
  | error e =>
    have hpv : pairsV l = .tup [.d (.sl []), .d (.agg [.int .i64 e.1, .int .i64 e.2])] := by rw [pairsV, hp]; rfl
    have hb : buildV l = .tup [.d (.agg [.sl [], .sl []]), .d (.agg [.int .i64 e.1, .int .i64 e.2])] := by rw [buildV, buildF, hp]; rfl
    rw [hpv] at hpairs
    have hne : e.1 ≠ 0 := by
      obtain ⟨_, ps, h2⟩ | ⟨_, h2⟩ | ⟨j, _, h2, _⟩ := flOf_cases l
      · rw [hp] at h2; cases h2
      · rw [hp] at h2; injection h2 with h2; rw [h2]; decide
      · rw [hp] at h2; injection h2 with h2; rw [h2]; show (40 : Int) ≠ 0; decide
    rw [hb]
    ((repeat refine WpM.seq ?_); have z_ex := True.intro; refine WpM.regPE [] [(0, _), (2, _), (3, _), (4, _), (5, _)] (by (refine s_o [(0, _)] rfl rfl rfl z_su rfl q_move z_fp z_ss ?_; refine s_pure (callOf_eq rfl rfl rfl (mlk_tmp z_lk mlk_nil)) (hpairs) rfl rfl z_ip z_fp ?_; refine s_o [(20, _)] rfl rfl rfl z_su rfl q_move z_fp z_ss ?_; refine s_o [(18, _)] rfl rfl rfl z_su rfl q_extract z_fp z_ss ?_; refine s_o [(18, _)] rfl rfl rfl z_su rfl q_extract z_fp z_ss ?_; refine s_o [] rfl rfl rfl z_su rfl q_alloc z_fp z_ss ?_; refine s_o [(21, _)] rfl rfl rfl z_su rfl q_move z_fp z_ss ?_; refine s_o [(5, _), (22, _)] rfl rfl rfl z_su rfl q_store z_fp z_ss ?_; exact wpS_nil ⟨rfl, rfl⟩)) z_su ?_; clear z_ex)
    ((repeat refine WpM.seq ?_); have z_ex := (And.intro @hne True.intro); refine WpM.regPE [] [(0, _), (2, _), (3, _), (4, _), (5, _), (25, _)] (by (refine s_o [(5, _)] rfl rfl rfl z_su rfl q_fieldAddr z_fp z_ss ?_; refine s_o [(23, _)] rfl rfl rfl z_su rfl q_load z_fp z_ss ?_; refine s_o [(24, _)] rfl rfl rfl z_su rfl q_full z_fp z_ss ?_; exact wpS_nil ⟨rfl, rfl⟩)) z_su ?_; clear z_ex)
    ((repeat refine WpM.seq ?_); refine WpM.condT (by (simp (maxSteps := 2000000) (disch := omega) [go_sem, -List.map_map, hne])) ?_)
    ((repeat refine WpM.seq ?_); have z_ex := True.intro; refine WpM.drwPE [] [(2, _), (3, _)] mixed (by kernel_rfl) (by kernel_rfl) [(1, 2)] (by kernel_rfl) (by (refine d_o [] rfl rfl rfl z_su rfl q_build z_fp z_ss rfl ?_; refine d_o [(5, _)] rfl rfl rfl z_su rfl q_load z_fp z_ss rfl ?_; refine d_o [(2, _), (26, _)] rfl rfl rfl z_su rfl q_store z_fp z_ss rfl ?_; refine d_o [(3, _), (27, _)] rfl rfl rfl z_su rfl q_store z_fp z_ss rfl ?_; exact d_end z_mt z_sn)) z_su ?_; clear z_ex)
    refine WpM.ret ?_
    refine ⟨.inr rfl, Upd.nilIn n0 0 (cs := [.nil, .nil]) (by (simp (maxSteps := 2000000) (disch := omega) [go_sem, -List.map_map])) (.inl rfl) (Upd.nilIn n0 1 (cs := [.d (.sl []), .nil]) (by (simp (maxSteps := 2000000) (disch := omega) [go_sem, -List.map_map])) (.inl rfl) (Upd.done ⟨_, (by (simp (maxSteps := 2000000) (disch := omega) [go_sem, -List.map_map, resV, resVs, resV1])), rfl, fun m k _ hk => ?_⟩))⟩
    have := hH _ _ hk
    (simp (maxSteps := 2000000) (disch := omega) [go_sem, -List.map_map, hk])
  | ok ps =>
    have hpv : pairsV l = .tup [.d (.sl (ps.map encPair)), .d (.agg [.int .i64 0, .int .i64 0])] := by rw [pairsV, hp]; rfl
    rw [hpv] at hpairs
    ((repeat refine WpM.seq ?_); have z_ex := True.intro; refine WpM.regPE [] [(0, _), (2, _), (3, _), (4, _), (5, _)] (by (refine s_o [(0, _)] rfl rfl rfl z_su rfl q_move z_fp z_ss ?_; refine s_pure (callOf_eq rfl rfl rfl (mlk_tmp z_lk mlk_nil)) (hpairs) rfl rfl z_ip z_fp ?_; refine s_o [(20, _)] rfl rfl rfl z_su rfl q_move z_fp z_ss ?_; refine s_o [(18, _)] rfl rfl rfl z_su rfl q_extract z_fp z_ss ?_; refine s_o [(18, _)] rfl rfl rfl z_su rfl q_extract z_fp z_ss ?_; refine s_o [] rfl rfl rfl z_su rfl q_alloc z_fp z_ss ?_; refine s_o [(21, _)] rfl rfl rfl z_su rfl q_move z_fp z_ss ?_; refine s_o [(5, _), (22, _)] rfl rfl rfl z_su rfl q_store z_fp z_ss ?_; exact wpS_nil ⟨rfl, rfl⟩)) z_su ?_; clear z_ex)
    ((repeat refine WpM.seq ?_); have z_ex := True.intro; refine WpM.regPE [] [(0, _), (2, _), (3, _), (4, _), (5, _), (25, _)] (by (refine s_o [(5, _)] rfl rfl rfl z_su rfl q_fieldAddr z_fp z_ss ?_; refine s_o [(23, _)] rfl rfl rfl z_su rfl q_load z_fp z_ss ?_; refine s_o [(24, _)] rfl rfl rfl z_su rfl q_full z_fp z_ss ?_; exact wpS_nil ⟨rfl, rfl⟩)) z_su ?_; clear z_ex)
    ((repeat refine WpM.seq ?_); refine WpM.condF (by (simp (maxSteps := 2000000) (disch := omega) [go_sem, -List.map_map])) ?_)
    refine WpM.skip ?_
    have hps : ps.length ≤ 256 := by have := psOf_len l; rw [hp] at this; exact this
    have hl256 : l.length ≤ 256 := listOk_len (pairsF_ok hp).1
    ((repeat refine WpM.seq ?_); have z_ex := True.intro; refine WpM.regP [] ?_; intro K hK; refine s_call (callOf_eq rfl rfl rfl mlk_nil) (new47 ⟨_, [(n0, some (.box [.nil, .nil])), (n0 + 1, some (.box [.d (.int .i64 0), .d (.int .i64 0)])), (n0 + 6, some (.box [.d (.int .i64 0), .d (.int .i64 0)]))], H⟩) rfl rfl z_ip ?_; rintro _ z_S ⟨L, O, rfl, hLed, hO, hnx1, old⟩; refine s_put z_fp ?_; refine s_o [(28, _)] rfl rfl rfl z_su rfl q_move z_fp z_ss ?_; refine s_endE [(0, _), (2, _), (3, _), (4, _), (6, _)] hK z_su ?_; clear hK K; clear z_ex)
    refine WpM.norm ?_
    intro nx G hnx hG hk
    have hnx : nx = z_S.next + 1 := hnx
    have hG : G = z_S.get := hG
    have hn1 : n0 + 12 ≤ z_S.next := Nat.le_trans (by show n0 + 12 ≤ n0 + _; omega) hnx1
    have hO' : ∀ m, O m → n0 + 12 ≤ m ∧ m < nx := fun m hm => ⟨Nat.le_trans (by show n0 + 12 ≤ n0 + _; omega) (hO m hm).1, by have := (hO m hm).2; omega⟩
    have g2 : G n0 = some (.box [.nil, .nil]) := by rw [hG]; exact old _ _ (by (simp (maxSteps := 2000000) (disch := omega) [go_sem, -List.map_map]))
    have g3 : G (n0 + 1) = some (.box [.d (.int .i64 0), .d (.int .i64 0)]) := by rw [hG]; exact old _ _ (by (simp (maxSteps := 2000000) (disch := omega) [go_sem, -List.map_map]))
    have gH : ∀ m k, H m = some k → G m = some k := fun m k hk => by
      have := hH m k hk
      rw [hG]
      exact old _ _ (by (simp (maxSteps := 2000000) (disch := omega) [go_sem, -List.map_map, hk]))
    have gL : LedAt G L Bk.empty O := by rw [hG]; exact hLed
    clear hLed hO old hnx1 hk
    ((repeat refine WpM.seq ?_); have z_ex := True.intro; refine WpM.regPE [] [(0, _), (2, _), (3, _), (4, _), (6, _), (7, _)] (by (refine s_o [] rfl rfl rfl z_su rfl q_alloc z_fp z_ss ?_; exact wpS_nil ⟨rfl, rfl⟩)) z_su ?_; clear z_ex)
    refine Upd.wp (Upd.ghostIn nx 1 5 (cs := [.nil, .nil]) (by (simp (maxSteps := 2000000) (disch := omega) [go_sem, -List.map_map])) (.inl rfl) (Upd.done ?_))
    refine WpM.less (St.Le.refl _) (frLe_frOf (l := [(0, .d (evs l)), (2, .ptr n0 0), (3, .ptr (n0 + 1) 0), (4, .d (.sl (ps.map encPair))), (6, .ptr L 0), (7, .ptr nx 0)]) (by (simp (maxSteps := 2000000) (disch := omega) [go_sem, -List.map_map]))) ?_
    refine WpM.norm ?_
    intro nx1 G1 hnx1 hG1 hk1
    have hI : BInv LedAt H n0 L nx (nx + 1) [] Bk.empty O G1 nx1 := by
      have hnx1' : nx1 = nx + 2 := hnx1
      refine ⟨by rw [hG1]; (simp (maxSteps := 2000000) (disch := omega) [go_sem, -List.map_map, g2]), by rw [hG1]; (simp (maxSteps := 2000000) (disch := omega) [go_sem, -List.map_map, g3]), by rw [hG1]; (simp (maxSteps := 2000000) (disch := omega) [go_sem, -List.map_map]), by rw [hG1]; (simp (maxSteps := 2000000) (disch := omega) [go_sem, -List.map_map]), gL.same fun m k ho hk => ?_, fun m hm => ⟨by have := (hO' m hm).1; omega, by have := (hO' m hm).2; omega⟩, fun h => by have := (hO' _ h).2; omega, fun h => by have := (hO' _ h).2; omega, by omega, by omega, fun m k hk => ?_⟩
      · have := (hO' m ho).2
        rw [hG1]
        (simp (maxSteps := 2000000) (disch := omega) [go_sem, -List.map_map, hk])
      · have h9 := hH m k hk
        have h8 := gH m k hk
        rw [hG1]
        (simp (maxSteps := 2000000) (disch := omega) [go_sem, -List.map_map, h8])
    clear hG1 hk1 hnx1 g2 g3 gH gL hO' hn1 hnx hG
    obtain ⟨nh, hnh⟩ : ∃ nh, nh = nx := ⟨_, rfl⟩
    obtain ⟨nr, hnr⟩ : ∃ nr, nr = nx + 1 := ⟨_, rfl⟩
    rw [← hnr, ← hnh] at hI
    rw [← hnh]
    clear hnh hnr
    ((repeat refine WpM.seq ?_); have z_ex := True.intro; refine WpM.regPE [] [(0, _), (2, _), (3, _), (6, _), (7, _), (29, _), (30, _), (31, _)] (by (refine s_o [(4, _)] rfl rfl rfl z_su rfl q_move z_fp z_ss ?_; refine s_o [(29, _)] rfl rfl rfl z_su rfl q_full z_fp z_ss ?_; refine s_o [] rfl rfl rfl z_su rfl q_move z_fp z_ss ?_; exact wpS_nil ⟨rfl, rfl⟩)) z_su ?_; clear z_ex)
    ((repeat refine WpM.seq ?_); refine WpM.block ?_)
    refine WpM.loop (fun (i : Nat) fr S => i ≤ ps.length ∧ ∃ nx G b ts O nr, S = ⟨nx, [], G⟩ ∧ buildSt l ps i = .ok (b, ts) ∧ BInv LedAt H n0 L nh nr ts b O G nx ∧ fr = frOf [(0, .d (evs l)), (2, .ptr n0 0), (3, .ptr (n0 + 1) 0), (6, .ptr L 0), (7, .ptr nh 0), (29, .d (.sl (ps.map encPair))), (30, .d (.int .i64 ps.length)), (31, .d (.int .i64 i))]) (fun i => ps.length - i) 0 (St.Le.refl _) (Sub.le z_su) ⟨by omega, _, G1, Bk.empty, [], O, nr, rfl, rfl, hI.same LedAt.same hH (by omega) (fun _ _ _ h => h), rfl⟩ ?_
    clear hI
    rintro i fr S' ⟨hi, nx, G, b, ts, O, nr, rfl, hst, hI, rfl⟩
    refine WpM.known fun hGk => ?_
    have hGk : ∀ m k, G m = some k → m < nx := hGk
    have k2 := hI.r2
    have k3 := hI.r3
    have l1 := hI.l1
    ((repeat refine WpM.seq ?_); have z_ex := True.intro; refine WpM.regPE [] [(0, _), (2, _), (3, _), (6, _), (7, _), (29, _), (30, _), (31, _), (32, _)] (by (refine s_o [(30, _), (31, _)] rfl rfl rfl z_su rfl q_full z_fp z_ss ?_; exact wpS_nil ⟨rfl, rfl⟩)) z_su ?_; clear z_ex)
    by_cases hit : i < ps.length
    · ((repeat refine WpM.seq ?_); refine WpM.condT (by (simp (maxSteps := 2000000) (disch := omega) [go_sem, -List.map_map, hit])) ?_)
      refine WpM.skip ?_
      ((repeat refine WpM.seq ?_); refine WpM.block ?_)
      obtain ⟨p, hpe⟩ : ∃ p, p = ps[i] := ⟨_, rfl⟩
      have hget : (ps.map encPair)[i]? = some (encPair p) := by simp [hit, hpe]
      have hpo := pair_ok hp hit
      rw [← hpe] at hpo
      have bad : ∀ e, buildStep l i p b ts = .error e → buildV l = .tup [.d (.agg [.sl [], .sl []]), .d (.agg [.int .i64 e.1, .int .i64 e.2])] := fun e he => by
        rw [buildV, buildF_bad hp hit hst (by rw [← hpe]; exact he)]
        rfl
      obtain ⟨hw, htl, h32⟩ := buildSt_wf hp (Nat.le_of_lt hit) hst
      ((repeat refine WpM.seq ?_); have z_ex := (And.intro @hget (And.intro @encPair.eq_1 True.intro)); refine WpM.regPE [] [(0, _), (2, _), (3, _), (6, _), (7, _), (8, _), (9, _), (29, _), (30, _), (31, _)] (by (refine s_o [(31, _)] rfl rfl rfl z_su rfl q_move z_fp z_ss ?_; refine s_o [(29, _), (31, _)] rfl rfl rfl z_su rfl q_full z_fp z_ss ?_; refine s_o [(34, _)] rfl rfl rfl z_su rfl q_load z_fp z_ss ?_; refine s_o [] rfl rfl rfl z_su rfl q_alloc z_fp z_ss ?_; refine s_o [(33, _)] rfl rfl rfl z_su rfl q_move z_fp z_ss ?_; refine s_o [(9, _), (35, _)] rfl rfl rfl z_su rfl q_store z_fp z_ss ?_; exact wpS_nil ⟨rfl, rfl⟩)) z_su ?_; clear z_ex)
      by_cases h32' : i = 32
      · rw [bad (2, p.from_) (by rw [buildStep, if_pos h32'])]
        have h32i : (i : Int) = 32 := by omega
        ((repeat refine WpM.seq ?_); have z_ex := (And.intro @h32i True.intro); refine WpM.regPE [] [(0, _), (2, _), (3, _), (6, _), (7, _), (9, _), (29, _), (30, _), (31, _), (37, _)] (by (refine s_o [(8, _)] rfl rfl rfl z_su rfl q_move z_fp z_ss ?_; refine s_o [(36, _)] rfl rfl rfl z_su rfl q_full z_fp z_ss ?_; exact wpS_nil ⟨rfl, rfl⟩)) z_su ?_; clear z_ex)
        ((repeat refine WpM.seq ?_); refine WpM.condT (by (simp (maxSteps := 2000000) (disch := omega) [go_sem, -List.map_map, h32i])) ?_)
        ((repeat refine WpM.seq ?_); have z_ex := (And.intro @k2 (And.intro @k3 True.intro)); refine WpM.drwPE [] [(2, _), (3, _)] mixed (by kernel_rfl) (by kernel_rfl) [(2, 4)] (by kernel_rfl) (by (refine d_o [] rfl rfl rfl z_su rfl q_build z_fp z_ss rfl ?_; refine d_o [(9, _)] rfl rfl rfl z_su rfl q_fieldAddr z_fp z_ss rfl ?_; refine d_o [(39, _)] rfl rfl rfl z_su rfl q_load z_fp z_ss rfl ?_; refine d_o [(40, _)] rfl rfl rfl z_su rfl q_build z_fp z_ss rfl ?_; refine d_o [(2, _), (38, _)] rfl rfl rfl z_su rfl q_store z_fp z_ss rfl ?_; refine d_o [(3, _), (41, _)] rfl rfl rfl z_su rfl q_store z_fp z_ss rfl ?_; exact d_end z_mt z_sn)) z_su ?_; clear z_ex)
        refine WpM.ret ?_
        refine ⟨.inr rfl, Upd.nilIn n0 0 (cs := [.nil, .nil]) (by (simp (maxSteps := 2000000) (disch := omega) [go_sem, -List.map_map])) (.inl rfl) (Upd.nilIn n0 1 (cs := [.d (.sl []), .nil]) (by (simp (maxSteps := 2000000) (disch := omega) [go_sem, -List.map_map])) (.inl rfl) (Upd.done ⟨_, (by (simp (maxSteps := 2000000) (disch := omega) [go_sem, -List.map_map, resV, resVs, resV1])), rfl, fun m k _ hk => ?_⟩))⟩
        have h9 := hH _ _ hk
        have h8 := hI.old m k hk
        (simp (maxSteps := 2000000) (disch := omega) [go_sem, -List.map_map, h8])
      · have h32i : ¬ (i : Int) = 32 := by omega
        ((repeat refine WpM.seq ?_); have z_ex := (And.intro @h32i True.intro); refine WpM.regPE [] [(0, _), (2, _), (3, _), (6, _), (7, _), (9, _), (29, _), (30, _), (31, _), (37, _)] (by (refine s_o [(8, _)] rfl rfl rfl z_su rfl q_move z_fp z_ss ?_; refine s_o [(36, _)] rfl rfl rfl z_su rfl q_full z_fp z_ss ?_; exact wpS_nil ⟨rfl, rfl⟩)) z_su ?_; clear z_ex)
        ((repeat refine WpM.seq ?_); refine WpM.condF (by (simp (maxSteps := 2000000) (disch := omega) [go_sem, -List.map_map, h32i])) ?_)
        refine WpM.skip ?_
        obtain ⟨e, hee⟩ : ∃ e, e = ev l p.from_ := ⟨_, rfl⟩
        have hfl := hpo.frm
        have hgete : (l.map encEvent)[p.from_]? = some (encEvent e) := by rw [hee, ev_eq hfl]; simp [hfl]
        ((repeat refine WpM.seq ?_); have z_ex := (And.intro @evs.eq_1 (And.intro @hgete (And.intro @hfl (And.intro @encEvent.eq_1 True.intro)))); refine WpM.regPE [] [(0, _), (2, _), (3, _), (6, _), (7, _), (9, _), (10, _), (29, _), (30, _), (31, _)] (by (refine s_o [(0, _)] rfl rfl rfl z_su rfl q_move z_fp z_ss ?_; refine s_o [(9, _)] rfl rfl rfl z_su rfl q_fieldAddr z_fp z_ss ?_; refine s_o [(43, _)] rfl rfl rfl z_su rfl q_load z_fp z_ss ?_; refine s_o [(42, _), (44, _)] rfl rfl rfl z_su rfl q_full z_fp z_ss ?_; refine s_o [(45, _)] rfl rfl rfl z_su rfl q_load z_fp z_ss ?_; refine s_o [] rfl rfl rfl z_su rfl q_alloc z_fp z_ss ?_; refine s_o [(10, _), (46, _)] rfl rfl rfl z_su rfl q_store z_fp z_ss ?_; exact wpS_nil ⟨rfl, rfl⟩)) z_su ?_; clear z_ex)
        ((repeat refine WpM.seq ?_); have z_ex := True.intro; refine WpM.regPE [] [(0, _), (2, _), (3, _), (6, _), (7, _), (9, _), (10, _), (29, _), (30, _), (31, _), (48, _), (49, _), (50, _)] (by (refine s_o [(10, _)] rfl rfl rfl z_su rfl q_fieldAddr z_fp z_ss ?_; refine s_o [(47, _)] rfl rfl rfl z_su rfl q_load z_fp z_ss ?_; refine s_o [(48, _)] rfl rfl rfl z_su rfl q_full z_fp z_ss ?_; refine s_o [] rfl rfl rfl z_su rfl q_move z_fp z_ss ?_; exact wpS_nil ⟨rfl, rfl⟩)) z_su ?_; clear z_ex)
        refine WpM.norm ?_
        intro nx2 G2 hnx2 hG2 hk2
        have hnx2 : nx2 = nx + 20 := hnx2
        have hpb : G2 (nx + 4) = some (.box [.d (.int .i64 p.from_), .d (.int .i64 p.to_), .d (.int .i64 p.status)]) := by rw [hG2]; (simp (maxSteps := 2000000) (disch := omega) [go_sem, -List.map_map])
        have heb : G2 (nx + 14) = some (.box [.d (.int .i64 e.proc), .d (.int .i64 e.kind), .d (.sl (e.calls.map encCall))]) := by rw [hG2]; (simp (maxSteps := 2000000) (disch := omega) [go_sem, -List.map_map])
        have hI2 : BInv LedAt H n0 L nh nr ts b O G2 nx2 := hI.same LedAt.same hH (by omega) fun m k hm hk => by rw [hG2]; (simp (maxSteps := 2000000) (disch := omega) [go_sem, -List.map_map, hk])
        have hO1 : ¬ O (nx + 4) := fun h => by have := (hI.oo _ h).2; omega
        have hO2 : ¬ O (nx + 14) := fun h => by have := (hI.oo _ h).2; omega
        have hlp : nx + 4 < nx2 := by omega
        have hlb : nx + 14 < nx2 := by omega
        have hn04 : n0 + 2 ≤ nx + 4 := by omega
        have hl2 : nr < nx + 4 := by have := hI.l2.2; omega
        obtain ⟨np, hnp⟩ : ∃ np, np = nx + 4 := ⟨_, rfl⟩
        obtain ⟨nb, hnb⟩ : ∃ nb, nb = nx + 14 := ⟨_, rfl⟩
        have hnpb : np ≠ nb := by omega
        have hl3 : nr < nb := by omega
        have hl4 : n0 + 2 ≤ nb := by omega
        rw [← hnp] at hpb hO1 hlp hn04 hl2 ⊢
        rw [← hnb] at heb hO2 hlb ⊢
        clear hG2 hk2 hnx2 hI hGk hnp hnb l1 k2 k3 hget hgete
        have hcok := (eventOk_spec hpo.fok).2.2.2
        have h16 := (eventOk_spec hpo.fok).2.2.1
        rw [← hee] at hcok h16
        ((repeat refine WpM.seq ?_); refine WpM.block ?_)
        refine WpM.loop (fun (k : Nat) fr S => k ≤ e.calls.length ∧ ∃ nx G b3 O, S = ⟨nx, [], G⟩ ∧ entersE b (e.calls.take k) p.from_ = .ok b3 ∧ BInv LedAt H n0 L nh nr ts b3 O G nx ∧ G np = some (.box [.d (.int .i64 p.from_), .d (.int .i64 p.to_), .d (.int .i64 p.status)]) ∧ G nb = some (.box [.d (.int .i64 e.proc), .d (.int .i64 e.kind), .d (.sl (e.calls.map encCall))]) ∧ ¬ O np ∧ ¬ O nb ∧ np < nx ∧ nb < nx ∧ fr = frOf [(0, .d (evs l)), (2, .ptr n0 0), (3, .ptr (n0 + 1) 0), (6, .ptr L 0), (7, .ptr nh 0), (9, .ptr np 0), (10, .ptr nb 0), (29, .d (.sl (ps.map encPair))), (30, .d (.int .i64 ps.length)), (31, .d (.int .i64 i)), (48, .d (.sl (e.calls.map encCall))), (49, .d (.int .i64 e.calls.length)), (50, .d (.int .i64 k))]) (fun k => e.calls.length - k) 0 (St.Le.refl _) (Sub.le z_su) ⟨by omega, _, G2, b, O, rfl, rfl, hI2, hpb, heb, hO1, hO2, hlp, hlb, rfl⟩ ?_
        clear hpb heb hI2 hO1 hO2 hlp hlb
        rintro k fr S' ⟨hk, nx3, G, b3, O, rfl, hent, hI, hpb, heb, hO1, hO2, hlp, hlb, rfl⟩
        refine WpM.known fun hGk => ?_
        have hGk : ∀ m k, G m = some k → m < nx3 := hGk
        ((repeat refine WpM.seq ?_); have z_ex := True.intro; refine WpM.regPE [] [(0, _), (2, _), (3, _), (6, _), (7, _), (9, _), (10, _), (29, _), (30, _), (31, _), (48, _), (49, _), (50, _), (51, _)] (by (refine s_o [(49, _), (50, _)] rfl rfl rfl z_su rfl q_full z_fp z_ss ?_; exact wpS_nil ⟨rfl, rfl⟩)) z_su ?_; clear z_ex)
        by_cases hkt : k < e.calls.length
        · ((repeat refine WpM.seq ?_); refine WpM.condT (by (simp (maxSteps := 2000000) (disch := omega) [go_sem, -List.map_map, hkt])) ?_)
          refine WpM.skip ?_
          ((repeat refine WpM.seq ?_); refine WpM.block ?_)
          obtain ⟨c, hc⟩ : ∃ c, c = e.calls[k] := ⟨_, rfl⟩
          have hgetc : (e.calls.map encCall)[k]? = some (encCall c) := by simp [hkt, hc]
          obtain ⟨hk1, hk8⟩ := callOk_kind (hcok c (hc ▸ List.getElem_mem _))
          have hnext := entersE_take e.calls b p.from_ k hkt b3 hent
          rw [← hc] at hnext
          have hwf3 := entersE_wf _ hw hent
          ((repeat refine WpM.seq ?_); have z_ex := (And.intro @hgetc (And.intro @encCall.eq_1 True.intro)); refine WpM.regPE [] [(0, _), (2, _), (3, _), (6, _), (7, _), (9, _), (10, _), (12, _), (29, _), (30, _), (31, _), (48, _), (49, _), (50, _)] (by (refine s_o [(48, _), (50, _)] rfl rfl rfl z_su rfl q_full z_fp z_ss ?_; refine s_o [(52, _)] rfl rfl rfl z_su rfl q_load z_fp z_ss ?_; refine s_o [] rfl rfl rfl z_su rfl q_alloc z_fp z_ss ?_; refine s_o [(12, _), (53, _)] rfl rfl rfl z_su rfl q_store z_fp z_ss ?_; exact wpS_nil ⟨rfl, rfl⟩)) z_su ?_; clear z_ex)
          cases he : enterB b3 c p.from_ with
          | error er =>
            rw [he] at hnext
            have hbv := bad (er, p.from_) (by rw [buildStep, if_neg h32', ← hee, entersE_stop e.calls b p.from_ (k + 1) er hnext])
            rw [hbv]
            ((repeat refine WpM.seq ?_); have z_ex := (And.intro @hpb (And.intro @encCall.eq_1 True.intro)); refine WpM.regP [] ?_; intro K hK; refine s_o [(6, _)] rfl rfl rfl z_su rfl q_move z_fp z_ss ?_; refine s_o [(12, _)] rfl rfl rfl z_su rfl q_load z_fp z_ss ?_; refine s_o [(9, _)] rfl rfl rfl z_su rfl q_fieldAddr z_fp z_ss ?_; refine s_o [(56, _)] rfl rfl rfl z_su rfl q_load z_fp z_ss ?_; refine s_call (callOf_eq rfl rfl rfl (mlk_tmp z_lk (mlk_tmp z_lk (mlk_tmp z_lk mlk_nil)))) (enter48_in hwf3 c hk1 hk8 p.from_ _ he hI.led (fun m hm => (hI.oo m hm).2) hGk _ _ _ (by omega) (by omega)) rfl rfl z_ip ?_; rintro _ z_S ⟨hnx, old, rfl, hne2⟩; refine s_put z_fp ?_; refine s_o [(58, _)] rfl rfl rfl z_su rfl q_move z_fp z_ss ?_; refine s_endE [(0, _), (2, _), (3, _), (6, _), (7, _), (9, _), (10, _), (13, _), (29, _), (30, _), (31, _), (48, _), (49, _), (50, _)] hK z_su ?_; clear hK K; clear z_ex)
            refine WpM.norm ?_
            intro nx4 G4 hnx4 hG4 hk4
            have hnx4 : nx4 = z_S.next + 1 := hnx4
            have hG4 : G4 = z_S.get := hG4
            have o2 : ¬ O n0 := fun h => by have := (hI.oo _ h).1; omega
            have o3 : ¬ O (n0 + 1) := fun h => by have := (hI.oo _ h).1; omega
            have k2 : G4 n0 = some (.box [.nil, .nil]) := by rw [hG4]; exact old n0 _ o2 hI.r2
            have k3 : G4 (n0 + 1) = some (.box [.d (.int .i64 0), .d (.int .i64 0)]) := by rw [hG4]; exact old _ _ o3 hI.r3
            have kp : G4 np = some (.box [.d (.int .i64 p.from_), .d (.int .i64 p.to_), .d (.int .i64 p.status)]) := by rw [hG4]; exact old np _ hO1 hpb
            have kH : ∀ m k, H m = some k → G4 m = some k := fun m k hk => by rw [hG4]; exact old m k (fun h => by have := (hI.oo _ h).1; have := hH m k hk; omega) (hI.old m k hk)
            clear old hG4 hk4 hGk
            ((repeat refine WpM.seq ?_); have z_ex := (And.intro @hne2 True.intro); refine WpM.regPE [] [(0, _), (2, _), (3, _), (6, _), (7, _), (9, _), (10, _), (13, _), (29, _), (30, _), (31, _), (48, _), (49, _), (50, _), (60, _)] (by (refine s_o [(13, _)] rfl rfl rfl z_su rfl q_move z_fp z_ss ?_; refine s_o [(59, _)] rfl rfl rfl z_su rfl q_full z_fp z_ss ?_; exact wpS_nil ⟨rfl, rfl⟩)) z_su ?_; clear z_ex)
            ((repeat refine WpM.seq ?_); refine WpM.condT (by (simp (maxSteps := 2000000) (disch := omega) [go_sem, -List.map_map, hne2])) ?_)
            ((repeat refine WpM.seq ?_); have z_ex := (And.intro @k2 (And.intro @k3 (And.intro @kp True.intro))); refine WpM.drwPE [] [(2, _), (3, _)] mixed (by kernel_rfl) (by kernel_rfl) [(3, 5)] (by kernel_rfl) (by (refine d_o [] rfl rfl rfl z_su rfl q_build z_fp z_ss rfl ?_; refine d_o [(13, _)] rfl rfl rfl z_su rfl q_move z_fp z_ss rfl ?_; refine d_o [(9, _)] rfl rfl rfl z_su rfl q_fieldAddr z_fp z_ss rfl ?_; refine d_o [(63, _)] rfl rfl rfl z_su rfl q_load z_fp z_ss rfl ?_; refine d_o [(62, _), (64, _)] rfl rfl rfl z_su rfl q_build z_fp z_ss rfl ?_; refine d_o [(2, _), (61, _)] rfl rfl rfl z_su rfl q_store z_fp z_ss rfl ?_; refine d_o [(3, _), (65, _)] rfl rfl rfl z_su rfl q_store z_fp z_ss rfl ?_; exact d_end z_mt z_sn)) z_su ?_; clear z_ex)
            refine WpM.ret ?_
            refine ⟨.inr rfl, Upd.nilIn n0 0 (cs := [.nil, .nil]) (by (simp (maxSteps := 2000000) (disch := omega) [go_sem, -List.map_map])) (.inl rfl) (Upd.nilIn n0 1 (cs := [.d (.sl []), .nil]) (by (simp (maxSteps := 2000000) (disch := omega) [go_sem, -List.map_map])) (.inl rfl) (Upd.done ⟨_, (by (simp (maxSteps := 2000000) (disch := omega) [go_sem, -List.map_map, resV, resVs, resV1])), rfl, fun m k _ hk => ?_⟩))⟩
            have h9 := hH _ _ hk
            have h8 := kH m k hk
            (simp (maxSteps := 2000000) (disch := omega) [go_sem, -List.map_map, h8])
          | ok b4 =>
            rw [he] at hnext
            ((repeat refine WpM.seq ?_); have z_ex := (And.intro @hpb (And.intro @encCall.eq_1 True.intro)); refine WpM.regP [] ?_; intro K hK; refine s_o [(6, _)] rfl rfl rfl z_su rfl q_move z_fp z_ss ?_; refine s_o [(12, _)] rfl rfl rfl z_su rfl q_load z_fp z_ss ?_; refine s_o [(9, _)] rfl rfl rfl z_su rfl q_fieldAddr z_fp z_ss ?_; refine s_o [(56, _)] rfl rfl rfl z_su rfl q_load z_fp z_ss ?_; refine s_call (callOf_eq rfl rfl rfl (mlk_tmp z_lk (mlk_tmp z_lk (mlk_tmp z_lk mlk_nil)))) (enter48_in hwf3 c hk1 hk8 p.from_ _ he hI.led (fun m hm => (hI.oo m hm).2) hGk _ _ _ (by omega) (by omega)) rfl rfl z_ip ?_; rintro _ z_S ⟨hnx, old, rfl, O4, hO4, hLed4⟩; refine s_put z_fp ?_; refine s_o [(58, _)] rfl rfl rfl z_su rfl q_move z_fp z_ss ?_; refine s_endE [(0, _), (2, _), (3, _), (6, _), (7, _), (9, _), (10, _), (13, _), (29, _), (30, _), (31, _), (48, _), (49, _), (50, _)] hK z_su ?_; clear hK K; clear z_ex)
            refine WpM.norm ?_
            intro nx4 G4 hnx4 hG4 hk4
            have hnx4 : nx4 = z_S.next + 1 := hnx4
            have hG4 : G4 = z_S.get := hG4
            have hI4 : BInv LedAt H n0 L nh nr ts b4 O4 G4 nx4 := by
              refine hI.enter hH (by omega) (fun m k ho hk => by rw [hG4]; exact old m k ho hk) (fun m hm => ?_) (by rw [hG4]; exact hLed4)
              have := hO4 m hm
              exact ⟨this.1, by omega⟩
            have kp := old np _ hO1 hpb
            have ke := old nb _ hO2 heb
            rw [← hG4] at kp ke
            have p1 : ¬ O4 np := fun h => by
              rcases (hO4 np h).1 with h1 | h1
              · exact hO1 h1
              · omega
            have p2 : ¬ O4 nb := fun h => by
              rcases (hO4 nb h).1 with h1 | h1
              · exact hO2 h1
              · omega
            clear old hG4 hk4 hO4 hLed4 hI hpb heb hO1 hO2
            ((repeat refine WpM.seq ?_); have z_ex := True.intro; refine WpM.regPE [] [(0, _), (2, _), (3, _), (6, _), (7, _), (9, _), (10, _), (13, _), (29, _), (30, _), (31, _), (48, _), (49, _), (50, _), (60, _)] (by (refine s_o [(13, _)] rfl rfl rfl z_su rfl q_move z_fp z_ss ?_; refine s_o [(59, _)] rfl rfl rfl z_su rfl q_full z_fp z_ss ?_; exact wpS_nil ⟨rfl, rfl⟩)) z_su ?_; clear z_ex)
            ((repeat refine WpM.seq ?_); refine WpM.condF (by (simp (maxSteps := 2000000) (disch := omega) [go_sem, -List.map_map])) ?_)
            refine WpM.skip ?_
            ((repeat refine WpM.seq ?_); have z_ex := (And.intro @wrap_id True.intro); refine WpM.regPE [] [(0, _), (2, _), (3, _), (6, _), (7, _), (9, _), (10, _), (29, _), (30, _), (31, _), (48, _), (49, _), (50, _)] (by (refine s_o [(50, _)] rfl rfl rfl z_su rfl q_full z_fp z_ss ?_; refine s_o [(66, _)] rfl rfl rfl z_su rfl q_move z_fp z_ss ?_; exact wpS_nil ⟨rfl, rfl⟩)) z_su ?_; clear z_ex)
            exact round_end (x' := k + 1) (St.Le.refl _) (Sub.le z_su) ⟨by omega, _, G4, b4, O4, rfl, hnext, hI4.same LedAt.same hH (by omega) (fun _ _ _ h => h), kp, ke, p1, p2, by omega, by omega, rfl⟩ (by omega)
        · ((repeat refine WpM.seq ?_); refine WpM.condF (by (simp (maxSteps := 2000000) (disch := omega) [go_sem, -List.map_map, hkt])) ?_)
          (refine WpM.exit ?_; (repeat (with_reducible (first | refine thenM_exit ?_ | refine blockM_eq ?_ | refine blockM_ne (by decide) ?_))))
          obtain rfl : k = e.calls.length := by omega
          rw [List.take_length] at hent
          have hkeys := hpo.keys hw (by rw [← hee]; exact hent)
          have hcvs := callsFor_ok hok hpo
          have hcl16 := hpo.calls16
          have hstep : buildStep l i p b ts = .ok (b3, ts ++ [txnOf l p b3]) := by rw [buildStep, if_neg h32', ← hee, hent]
          have hnextst : buildSt l ps (i + 1) = .ok (b3, ts ++ [txnOf l p b3]) := by rw [buildSt_succ hst hit, ← hpe]; exact hstep
          clear bad hstep hcok hst
          ((repeat refine WpM.seq ?_); have z_ex := (And.intro @heb (And.intro @hpb True.intro)); refine WpM.regPE [] [(0, _), (2, _), (3, _), (6, _), (7, _), (9, _), (10, _), (14, _), (29, _), (30, _), (31, _)] (by (refine s_o [(10, _)] rfl rfl rfl z_su rfl q_fieldAddr z_fp z_ss ?_; refine s_o [(67, _)] rfl rfl rfl z_su rfl q_load z_fp z_ss ?_; refine s_o [(9, _)] rfl rfl rfl z_su rfl q_fieldAddr z_fp z_ss ?_; refine s_o [(69, _)] rfl rfl rfl z_su rfl q_load z_fp z_ss ?_; refine s_o [(9, _)] rfl rfl rfl z_su rfl q_fieldAddr z_fp z_ss ?_; refine s_o [(71, _)] rfl rfl rfl z_su rfl q_load z_fp z_ss ?_; refine s_o [(9, _)] rfl rfl rfl z_su rfl q_fieldAddr z_fp z_ss ?_; refine s_o [(73, _)] rfl rfl rfl z_su rfl q_load z_fp z_ss ?_; refine s_o [(68, _), (70, _), (72, _), (74, _)] rfl rfl rfl z_su rfl q_build z_fp z_ss ?_; refine s_o [] rfl rfl rfl z_su rfl q_alloc z_fp z_ss ?_; refine s_o [(14, _), (75, _)] rfl rfl rfl z_su rfl q_store z_fp z_ss ?_; exact wpS_nil ⟨rfl, rfl⟩)) z_su ?_; clear z_ex)
          refine Upd.wp (Upd.ghostIn (nx3 + 10) 4 5 (cs := [.d (.int .i64 e.proc), .d (.int .i64 p.status), .d (.int .i64 p.from_), .d (.int .i64 p.to_), .nil]) (by (simp (maxSteps := 2000000) (disch := omega) [go_sem, -List.map_map])) (.inl (by rfl)) (Upd.done ?_))
          refine WpM.less (le_cut (n0 := nx3) (n' := nx3 + 13) (l' := [(nx3 + 10, some (.box [.d (.int .i64 e.proc), .d (.int .i64 p.status), .d (.int .i64 p.from_), .d (.int .i64 p.to_), .ms (nx3 + 12) 5 0 0])), (nx3 + 12, some (.row 5 []))]) hGk (by (simp (maxSteps := 2000000) (disch := omega) [go_sem, -List.map_map])) (Nat.le_refl _) (by (simp (maxSteps := 2000000) (disch := omega) [go_sem, -List.map_map]))) (Sub.le (l' := [(0, .d (evs l)), (2, .ptr n0 0), (3, .ptr (n0 + 1) 0), (6, .ptr L 0), (7, .ptr nh 0), (9, .ptr np 0), (10, .ptr nb 0), (14, .ptr (nx3 + 10) 0), (29, .d (.sl (ps.map encPair))), (30, .d (.int .i64 ps.length)), (31, .d (.int .i64 i))]) z_su) ?_
          ((repeat refine WpM.seq ?_); have z_ex := (And.intro @heb True.intro); refine WpM.regPE [] [(0, _), (2, _), (3, _), (6, _), (7, _), (9, _), (14, _), (15, _), (29, _), (30, _), (31, _)] (by (refine s_o [(10, _)] rfl rfl rfl z_su rfl q_fieldAddr z_fp z_ss ?_; refine s_o [(76, _)] rfl rfl rfl z_su rfl q_load z_fp z_ss ?_; refine s_o [(77, _)] rfl rfl rfl z_su rfl q_move z_fp z_ss ?_; exact wpS_nil ⟨rfl, rfl⟩)) z_su ?_; clear z_ex)
          obtain ⟨cs, hcs⟩ : ∃ cs, cs = callsFor l p := ⟨_, rfl⟩
          rw [← hcs] at hkeys hcvs hcl16
          refine WpM.seq ?_
          refine wpMid (Mid := fun (fr : Fr) (S' : St) => ∃ nx5, nx3 + 13 ≤ nx5 ∧ S' = ⟨nx5, [(nx3 + 10, some (.box [.d (.int .i64 e.proc), .d (.int .i64 p.status), .d (.int .i64 p.from_), .d (.int .i64 p.to_), .ms (nx3 + 12) 5 0 0])), (nx3 + 12, some (.row 5 []))], G⟩ ∧ FrLe fr (frOf [(0, .d (evs l)), (2, .ptr n0 0), (3, .ptr (n0 + 1) 0), (6, .ptr L 0), (7, .ptr nh 0), (14, .ptr (nx3 + 10) 0), (29, .d (.sl (ps.map encPair))), (30, .d (.int .i64 ps.length)), (31, .d (.int .i64 i)), (15, .d (.sl (cs.map encCall)))])) ?_ ?_
          · by_cases hs1 : p.status = 1
            · obtain ⟨t, ht1, ht2, ht3, ht4⟩ := hpo.to_ hs1
              have hcf : cs = (ev l t).calls := by rw [hcs, callsFor, if_pos hs1, ht1]; simp
              obtain ⟨e2, he2⟩ : ∃ e2, e2 = ev l t := ⟨_, rfl⟩
              have hgete2 : (l.map encEvent)[t]? = some (encEvent e2) := by rw [he2, ev_eq ht2]; simp [ht2]
              rw [← he2] at hcf
              subst hcf
              ((repeat refine WpM.seq ?_); have z_ex := (And.intro @hpb (And.intro @hs1 True.intro)); refine WpM.regPE [] [(0, _), (2, _), (3, _), (6, _), (7, _), (9, _), (14, _), (15, _), (29, _), (30, _), (31, _), (80, _)] (by (refine s_o [(9, _)] rfl rfl rfl z_su rfl q_fieldAddr z_fp z_ss ?_; refine s_o [(78, _)] rfl rfl rfl z_su rfl q_load z_fp z_ss ?_; refine s_o [(79, _)] rfl rfl rfl z_su rfl q_full z_fp z_ss ?_; exact wpS_nil ⟨rfl, rfl⟩)) z_su ?_; clear z_ex)
              ((repeat refine WpM.seq ?_); refine WpM.condT (by (simp (maxSteps := 2000000) (disch := omega) [go_sem, -List.map_map, hs1])) ?_)
              ((repeat refine WpM.seq ?_); have z_ex := (And.intro @hpb (And.intro @ht1 (And.intro @evs.eq_1 (And.intro @hgete2 (And.intro @ht2 (And.intro @encEvent.eq_1 True.intro)))))); refine WpM.regPE [] [(0, _), (2, _), (3, _), (6, _), (7, _), (14, _), (15, _), (29, _), (30, _), (31, _)] (by (refine s_o [(0, _)] rfl rfl rfl z_su rfl q_move z_fp z_ss ?_; refine s_o [(9, _)] rfl rfl rfl z_su rfl q_fieldAddr z_fp z_ss ?_; refine s_o [(82, _)] rfl rfl rfl z_su rfl q_load z_fp z_ss ?_; refine s_o [(81, _), (83, _)] rfl rfl rfl z_su rfl q_full z_fp z_ss ?_; refine s_o [(84, _)] rfl rfl rfl z_su rfl q_fieldAddr z_fp z_ss ?_; refine s_o [(85, _)] rfl rfl rfl z_su rfl q_load z_fp z_ss ?_; refine s_o [(86, _)] rfl rfl rfl z_su rfl q_move z_fp z_ss ?_; exact wpS_nil ⟨rfl, rfl⟩)) z_su ?_; clear z_ex)
              exact ⟨_, (by show nx3 + 13 ≤ nx3 + _; omega), rfl, Sub.le z_su⟩
            · have hcf : cs = e.calls := by rw [hcs, callsFor, if_neg hs1, hee]
              subst hcf
              ((repeat refine WpM.seq ?_); have z_ex := (And.intro @hpb (And.intro @hs1 True.intro)); refine WpM.regPE [] [(0, _), (2, _), (3, _), (6, _), (7, _), (9, _), (14, _), (15, _), (29, _), (30, _), (31, _), (80, _)] (by (refine s_o [(9, _)] rfl rfl rfl z_su rfl q_fieldAddr z_fp z_ss ?_; refine s_o [(78, _)] rfl rfl rfl z_su rfl q_load z_fp z_ss ?_; refine s_o [(79, _)] rfl rfl rfl z_su rfl q_full z_fp z_ss ?_; exact wpS_nil ⟨rfl, rfl⟩)) z_su ?_; clear z_ex)
              ((repeat refine WpM.seq ?_); refine WpM.condF (by (simp (maxSteps := 2000000) (disch := omega) [go_sem, -List.map_map, hs1])) ?_)
              refine WpM.skip ?_
              exact ⟨_, (by show nx3 + 13 ≤ nx3 + _; omega), rfl, Sub.le z_su⟩
          rintro fr S' ⟨nx5, hnx5, rfl, hfr⟩
          refine WpM.less (St.Le.refl _) hfr ?_
          clear hfr hpb heb hO1 hO2 hlp hlb
          ((repeat refine WpM.seq ?_); have z_ex := True.intro; refine WpM.regPE [] [(0, _), (2, _), (3, _), (6, _), (7, _), (14, _), (29, _), (30, _), (31, _), (87, _), (88, _), (89, _)] (by (refine s_o [(15, _)] rfl rfl rfl z_su rfl q_move z_fp z_ss ?_; refine s_o [(87, _)] rfl rfl rfl z_su rfl q_full z_fp z_ss ?_; refine s_o [] rfl rfl rfl z_su rfl q_move z_fp z_ss ?_; exact wpS_nil ⟨rfl, rfl⟩)) z_su ?_; clear z_ex)
          ((repeat refine WpM.seq ?_); refine WpM.block ?_)
          obtain ⟨nk, na, nt, nf, ni, am, fm, im, r, hN⟩ := hI.led
          have kL := hN.box
          have kA := hN.gat
          have gL : L < nx3 := (hI.oo _ hN.oL).2
          have gA : na < nx3 := (hI.oo _ hN.oa).2
          have hat := hN.at_
          have hst' : ∀ c : CallD, encOp (opOf b3 c) = .agg [.int .i64 c.kind, .int .i64 (((findN b3.keys c.key).getD 0 : Nat) : Int), .int .i64 c.arg, .bool c.got, .sl (c.vals.map (D.int .i64))] := fun c => rfl
          clear hN
          refine WpM.loop (fun (k : Nat) fr S => k ≤ cs.length ∧ ∃ nx nr2 ys, nx3 + 12 ≤ nr2 ∧ nr2 < nx ∧ ys = ((cs.take k).map fun c => V.d (encOp (opOf b3 c))) ∧ fr = frOf [(0, .d (evs l)), (2, .ptr n0 0), (3, .ptr (n0 + 1) 0), (6, .ptr L 0), (7, .ptr nh 0), (14, .ptr (nx3 + 10) 0), (29, .d (.sl (ps.map encPair))), (30, .d (.int .i64 ps.length)), (31, .d (.int .i64 i)), (87, .d (.sl (cs.map encCall))), (88, .d (.int .i64 cs.length)), (89, .d (.int .i64 k))] ∧ S = ⟨nx, [(nx3 + 10, some (.box [.d (.int .i64 e.proc), .d (.int .i64 p.status), .d (.int .i64 p.from_), .d (.int .i64 p.to_), .ms nr2 5 0 ys.length])), (nr2, some (.row 5 ys))], G⟩) (fun k => cs.length - k) 0 (St.Le.refl _) (Sub.le z_su) ⟨by omega, _, nx3 + 12, [], by omega, by show nx3 + 12 < nx5 + _; omega, by simp, rfl, rfl⟩ ?_
          rintro k fr S' ⟨hk, nx6, nr2, ys, hnr, hnx6, hys, rfl, rfl⟩
          have hyl : ys.length = k := by rw [hys]; simp; omega
          ((repeat refine WpM.seq ?_); have z_ex := True.intro; refine WpM.regPE [] [(0, _), (2, _), (3, _), (6, _), (7, _), (14, _), (29, _), (30, _), (31, _), (87, _), (88, _), (89, _), (90, _)] (by (refine s_o [(88, _), (89, _)] rfl rfl rfl z_su rfl q_full z_fp z_ss ?_; exact wpS_nil ⟨rfl, rfl⟩)) z_su ?_; clear z_ex)
          by_cases hkt : k < cs.length
          · ((repeat refine WpM.seq ?_); refine WpM.condT (by (simp (maxSteps := 2000000) (disch := omega) [go_sem, -List.map_map, hkt])) ?_)
            refine WpM.skip ?_
            ((repeat refine WpM.seq ?_); refine WpM.block ?_)
            obtain ⟨c, hc⟩ : ∃ c, c = cs[k] := ⟨_, rfl⟩
            have hgetc : (cs.map encCall)[k]? = some (encCall c) := by simp [hkt, hc]
            obtain ⟨kk, hkk⟩ := hkeys c (hc ▸ List.getElem_mem _)
            have hatc : am (.str c.key) = some (.d (.int .i64 kk)) := by rw [hat, hkk]; rfl
            have hcl := clone49' c.vals (hcvs c (hc ▸ List.getElem_mem _)).2.2.2.1
            have hys' : ys ++ [V.d (encOp (opOf b3 c))] = (cs.take (k + 1)).map (fun c => V.d (encOp (opOf b3 c))) := by rw [hys, List.take_succ_eq_append_getElem hkt, ← hc]; simp
            rw [hst' c, hkk, Option.getD_some] at hys'
            ((repeat refine WpM.seq ?_); have z_ex := (And.intro @hgetc (And.intro @encCall.eq_1 True.intro)); refine WpM.regPE [] [(0, _), (2, _), (3, _), (6, _), (7, _), (14, _), (17, _), (29, _), (30, _), (31, _), (87, _), (88, _), (89, _)] (by (refine s_o [(87, _), (89, _)] rfl rfl rfl z_su rfl q_full z_fp z_ss ?_; refine s_o [(91, _)] rfl rfl rfl z_su rfl q_load z_fp z_ss ?_; refine s_o [] rfl rfl rfl z_su rfl q_alloc z_fp z_ss ?_; refine s_o [(17, _), (92, _)] rfl rfl rfl z_su rfl q_store z_fp z_ss ?_; exact wpS_nil ⟨rfl, rfl⟩)) z_su ?_; clear z_ex)
            ((repeat refine WpM.seq ?_); have z_ex := (And.intro @kL (And.intro @kA (And.intro @hatc True.intro))); refine WpM.drwPE [] [(0, _), (2, _), (3, _), (6, _), (7, _), (14, _), (29, _), (30, _), (31, _), (87, _), (88, _), (89, _)] mixed (by kernel_rfl) (by kernel_rfl) [(1, 17), (3, 17), (7, 17), (9, 17), (10, 17), (12, 17), (14, 17), (1, 19)] (by kernel_rfl) (by (refine d_o [(14, _)] rfl rfl rfl z_su rfl q_fieldAddr z_fp z_ss rfl ?_; refine d_o [(93, _)] rfl rfl rfl z_su rfl q_load z_fp z_ss rfl ?_; refine d_o [(17, _)] rfl rfl rfl z_su rfl q_fieldAddr z_fp z_ss rfl ?_; refine d_o [(95, _)] rfl rfl rfl z_su rfl q_load z_fp z_ss rfl ?_; refine d_o [(6, _)] rfl rfl rfl z_su rfl q_move z_fp z_ss rfl ?_; refine d_o [(97, _)] rfl rfl rfl z_su rfl q_move z_fp z_ss rfl ?_; refine d_o [(98, _)] rfl rfl rfl z_su rfl q_fieldAddr z_fp z_ss rfl ?_; refine d_o [(99, _)] rfl rfl rfl z_su rfl q_load z_fp z_ss rfl ?_; refine d_o [(17, _)] rfl rfl rfl z_su rfl q_fieldAddr z_fp z_ss rfl ?_; refine d_o [(101, _)] rfl rfl rfl z_su rfl q_load z_fp z_ss rfl ?_; refine d_o [(100, _), (102, _)] rfl rfl rfl z_su rfl q_lookup z_fp z_ss rfl ?_; refine d_o [(17, _)] rfl rfl rfl z_su rfl q_fieldAddr z_fp z_ss rfl ?_; refine d_o [(104, _)] rfl rfl rfl z_su rfl q_load z_fp z_ss rfl ?_; refine d_o [(17, _)] rfl rfl rfl z_su rfl q_fieldAddr z_fp z_ss rfl ?_; refine d_o [(106, _)] rfl rfl rfl z_su rfl q_load z_fp z_ss rfl ?_; refine d_o [(17, _)] rfl rfl rfl z_su rfl q_fieldAddr z_fp z_ss rfl ?_; refine d_o [(108, _)] rfl rfl rfl z_su rfl q_load z_fp z_ss rfl ?_; refine d_pure (callOf_eq rfl rfl rfl (mlk_tmp z_lk mlk_nil)) (hcl) rfl rfl z_ip rfl z_fp ?_; refine d_o [(96, _), (103, _), (105, _), (107, _), (110, _)] rfl rfl rfl z_su rfl q_build z_fp z_ss rfl ?_; refine d_o [(111, _)] rfl rfl rfl z_su rfl q_full z_fp z_ss rfl ?_; refine d_o [(94, _), (112, _)] rfl rfl rfl z_su rfl q_full z_fp z_ss rfl ?_; refine d_o [(14, _)] rfl rfl rfl z_su rfl q_fieldAddr z_fp z_ss rfl ?_; refine d_o [(113, _), (114, _)] rfl rfl rfl z_su rfl q_store z_fp z_ss rfl ?_; exact d_end z_mt z_sn)) z_su ?_; clear z_ex)
            ((repeat refine WpM.seq ?_); have z_ex := (And.intro @wrap_id True.intro); refine WpM.regPE [] [(0, _), (2, _), (3, _), (6, _), (7, _), (14, _), (29, _), (30, _), (31, _), (87, _), (88, _), (89, _)] (by (refine s_o [(89, _)] rfl rfl rfl z_su rfl q_full z_fp z_ss ?_; refine s_o [(115, _)] rfl rfl rfl z_su rfl q_move z_fp z_ss ?_; exact wpS_nil ⟨rfl, rfl⟩)) z_su ?_; clear z_ex)
            exact round_end (x' := k + 1) (le_cut (n0 := nx3) (l' := [(nx3 + 10, some (.box [.d (.int .i64 e.proc), .d (.int .i64 p.status), .d (.int .i64 p.from_), .d (.int .i64 p.to_), .ms (nx6 + 25) 5 0 (ys.length + 1)])), (nx6 + 25, some (.row 5 (ys ++ [V.d (.agg [.int .i64 c.kind, .int .i64 kk, .int .i64 c.arg, .bool c.got, .sl (c.vals.map (D.int .i64))])])))]) hGk (by (simp (maxSteps := 2000000) (disch := omega) [go_sem, -List.map_map]); omega) (Nat.le_refl _) (by (simp (maxSteps := 2000000) (disch := omega) [go_sem, -List.map_map]))) (Sub.le z_su) ⟨by omega, nx6 + 30, nx6 + 25, _, by omega, by omega, hys', rfl, by (simp (maxSteps := 2000000) (disch := omega) [go_sem, -List.map_map])⟩ (by omega)
          · ((repeat refine WpM.seq ?_); refine WpM.condF (by (simp (maxSteps := 2000000) (disch := omega) [go_sem, -List.map_map, hkt])) ?_)
            (refine WpM.exit ?_; (repeat (with_reducible (first | refine thenM_exit ?_ | refine blockM_eq ?_ | refine blockM_ne (by decide) ?_))))
            obtain rfl : k = cs.length := by omega
            rw [List.take_length] at hys
            have htx : encTxn (txnOf l p b3) = .agg [.int .i64 e.proc, .int .i64 p.status, .int .i64 p.from_, .int .i64 p.to_, .sl (cs.map fun c => encOp (opOf b3 c))] := by simp [encTxn, txnOf, ← hcs, ← hee, List.map_map, Function.comp_def]
            have k5 := hI.hb
            have k6 := hI.hr
            have hn2 := hI.l1
            have hn4 := hI.l2
            have hts32 : ts.length ≤ 32 := by omega
            have e6 : nh ≠ nr := fun e => by rw [e, k6] at k5; cases k5
            have htk : (ts.map fun t => V.d (encTxn t)).take ts.length = ts.map fun t => V.d (encTxn t) := List.take_of_length_le (by simp)
            refine Upd.wp (Upd.freezeIn (nx3 + 10) 4 (cs := [.d (.int .i64 e.proc), .d (.int .i64 p.status), .d (.int .i64 p.from_), .d (.int .i64 p.to_), .ms nr2 5 0 ys.length]) (xs := ys) (cs.map fun c => encOp (opOf b3 c)) (by (simp (maxSteps := 2000000) (disch := omega) [go_sem, -List.map_map])) (by rfl) (by (simp (maxSteps := 2000000) (disch := omega) [go_sem, -List.map_map])) (by rw [List.drop_zero, List.take_length, hys, List.map_map]; rfl) (by simp [hys]) (Upd.done ?_))
            refine WpM.less (le_cut (n0 := nx3) (n' := nx6 + 1) (l' := [(nx3 + 10, some (.box [.d (.int .i64 e.proc), .d (.int .i64 p.status), .d (.int .i64 p.from_), .d (.int .i64 p.to_), .d (.sl (cs.map fun c => encOp (opOf b3 c)))]))]) hGk (by (simp (maxSteps := 2000000) (disch := omega) [go_sem, -List.map_map]); omega) (Nat.le_refl _) (by (simp (maxSteps := 2000000) (disch := omega) [go_sem, -List.map_map]))) (Sub.le (l' := [(0, .d (evs l)), (2, .ptr n0 0), (3, .ptr (n0 + 1) 0), (6, .ptr L 0), (7, .ptr nh 0), (14, .ptr (nx3 + 10) 0), (29, .d (.sl (ps.map encPair))), (30, .d (.int .i64 ps.length)), (31, .d (.int .i64 i))]) z_su) ?_
            ((repeat refine WpM.seq ?_); have z_ex := (And.intro @k5 (And.intro @k6 (And.intro @htk True.intro))); refine WpM.regPE [] [(0, _), (2, _), (3, _), (6, _), (7, _), (29, _), (30, _), (31, _)] (by (refine s_o [(7, _)] rfl rfl rfl z_su rfl q_fieldAddr z_fp z_ss ?_; refine s_o [(116, _)] rfl rfl rfl z_su rfl q_load z_fp z_ss ?_; refine s_o [(14, _)] rfl rfl rfl z_su rfl q_load z_fp z_ss ?_; refine s_o [(118, _)] rfl rfl rfl z_su rfl q_full z_fp z_ss ?_; refine s_o [(117, _), (119, _)] rfl rfl rfl z_su rfl q_full z_fp z_ss ?_; refine s_o [(7, _)] rfl rfl rfl z_su rfl q_fieldAddr z_fp z_ss ?_; refine s_o [(120, _), (121, _)] rfl rfl rfl z_su rfl q_store z_fp z_ss ?_; exact wpS_nil ⟨rfl, rfl⟩)) z_su ?_; clear z_ex)
            refine WpM.norm ?_
            intro nx7 G7 hnx7 hG7 hk7
            have hnx7 : nx7 = nx6 + 8 := hnx7
            have hI7 : BInv LedAt H n0 L nh (nx6 + 5) (ts ++ [txnOf l p b3]) b3 O G7 nx7 := by
              refine hI.push LedAt.same hH (by omega) (by omega) (by rw [hG7]; (simp (maxSteps := 2000000) (disch := omega) [go_sem, -List.map_map])) (by rw [hG7, htx]; (simp (maxSteps := 2000000) (disch := omega) [go_sem, -List.map_map])) fun m q hm h1 h2 hq => ?_
              rw [hG7]
              (simp (maxSteps := 2000000) (disch := omega) [go_sem, -List.map_map, hq])
            clear hG7 hk7 k5 k6 hI htx htk hys kL kA
            ((repeat refine WpM.seq ?_); have z_ex := (And.intro @wrap_id True.intro); refine WpM.regPE [] [(0, _), (2, _), (3, _), (6, _), (7, _), (29, _), (30, _), (31, _)] (by (refine s_o [(31, _)] rfl rfl rfl z_su rfl q_full z_fp z_ss ?_; refine s_o [(122, _)] rfl rfl rfl z_su rfl q_move z_fp z_ss ?_; exact wpS_nil ⟨rfl, rfl⟩)) z_su ?_; clear z_ex)
            exact round_end (x' := i + 1) (St.Le.refl _) (Sub.le z_su) ⟨by omega, _, G7, b3, _, O, nx6 + 5, rfl, hnextst, hI7.same LedAt.same hH (by omega) (fun _ _ _ h => h), rfl⟩ (by omega)
    · ((repeat refine WpM.seq ?_); refine WpM.condF (by (simp (maxSteps := 2000000) (disch := omega) [go_sem, -List.map_map, hit])) ?_)
      (refine WpM.exit ?_; (repeat (with_reducible (first | refine thenM_exit ?_ | refine blockM_eq ?_ | refine blockM_ne (by decide) ?_))))
      obtain rfl : i = ps.length := by omega
      have hbv : buildV l = .tup [.d (.agg [.sl (b.keys.map D.str), .sl (ts.map encTxn)]), .d (.agg [.int .i64 0, .int .i64 0])] := by rw [buildV, buildF_ok hp hst]; rfl
      rw [hbv]
      obtain ⟨nk, na, nt, nf, ni, am, fm, im, r, hN⟩ := hI.led
      have kL := hN.box
      have kk := hN.keys
      have gL : L < nx := (hI.oo _ hN.oL).2
      have gk : nk < nx := (hI.oo _ hN.ok).2
      have k5 := hI.hb
      have k6 := hI.hr
      have hn4 := hI.l2
      have oL := (hI.oo _ hN.oL).1
      have ok1 := (hI.oo _ hN.ok).1
      have e1 : L ≠ nh := fun e => hI.o1 (e ▸ hN.oL)
      have e2 : L ≠ nr := fun e => hI.o2 (e ▸ hN.oL)
      have e3 : nk ≠ nh := fun e => hI.o1 (e ▸ hN.ok)
      have e4 : nk ≠ nr := fun e => hI.o2 (e ▸ hN.ok)
      have e5 : L ≠ nk := hN.ne.1
      have e6 : nh ≠ nr := fun e => by rw [e, k6] at k5; cases k5
      clear hN
      refine Upd.wp (Upd.freezeIn L 0 (cs := [.ms nk 1 0 b.keys.length, .map na, .ms nt 1 0 b.types.length, .map nf, .map ni]) (xs := b.keys.map fun s => .d (.str s)) (b.keys.map D.str) (by (simp (maxSteps := 2000000) (disch := omega) [go_sem, -List.map_map, kL])) (by rfl) (by (simp (maxSteps := 2000000) (disch := omega) [go_sem, -List.map_map, kk])) (by rw [List.drop_zero, List.take_of_length_le (by simp), List.map_map]; rfl) (by simp) (Upd.freezeIn nh 1 (cs := [.nil, .ms nr 5 0 ts.length]) (xs := ts.map fun t => .d (encTxn t)) (ts.map encTxn) (by (simp (maxSteps := 2000000) (disch := omega) [go_sem, -List.map_map, k5])) (by rfl) (by (simp (maxSteps := 2000000) (disch := omega) [go_sem, -List.map_map, k6])) (by rw [List.drop_zero, List.take_of_length_le (by simp), List.map_map]; rfl) (by simp) (Upd.done ?_)))
      refine WpM.less (St.Le.refl _) (Sub.le (l' := [(2, .ptr n0 0), (3, .ptr (n0 + 1) 0), (6, .ptr L 0), (7, .ptr nh 0)]) z_su) ?_
      refine WpM.norm ?_
      intro nx8 G8 hnx8 hG8 hk8
      have q1 : G8 L = some (.box [.d (.sl (b.keys.map D.str)), .map na, .ms nt 1 0 b.types.length, .map nf, .map ni]) := by rw [hG8]; (simp (maxSteps := 2000000) (disch := omega) [go_sem, -List.map_map])
      have q2 : G8 nh = some (.box [.nil, .d (.sl (ts.map encTxn))]) := by rw [hG8]; (simp (maxSteps := 2000000) (disch := omega) [go_sem, -List.map_map])
      have q3 : G8 n0 = some (.box [.nil, .nil]) := by rw [hG8]; (simp (maxSteps := 2000000) (disch := omega) [go_sem, -List.map_map, k2])
      have q4 : G8 (n0 + 1) = some (.box [.d (.int .i64 0), .d (.int .i64 0)]) := by rw [hG8]; (simp (maxSteps := 2000000) (disch := omega) [go_sem, -List.map_map, k3])
      have q5 : ∀ m k, H m = some k → G8 m = some k := fun m k hk => by
        have h9 := hH m k hk
        have h8 := hI.old m k hk
        rw [hG8]
        (simp (maxSteps := 2000000) (disch := omega) [go_sem, -List.map_map, h8])
      clear hG8 hk8 hnx8 kL kk k5 k6 k2 k3 hGk
      ((repeat refine WpM.seq ?_); have z_ex := (And.intro @q1 (And.intro @q2 True.intro)); refine WpM.regPE [] [(2, _), (3, _), (7, _)] (by (refine s_o [(6, _)] rfl rfl rfl z_su rfl q_move z_fp z_ss ?_; refine s_o [(123, _)] rfl rfl rfl z_su rfl q_move z_fp z_ss ?_; refine s_o [(124, _)] rfl rfl rfl z_su rfl q_fieldAddr z_fp z_ss ?_; refine s_o [(125, _)] rfl rfl rfl z_su rfl q_load z_fp z_ss ?_; refine s_o [(7, _)] rfl rfl rfl z_su rfl q_fieldAddr z_fp z_ss ?_; refine s_o [(126, _), (127, _)] rfl rfl rfl z_su rfl q_store z_fp z_ss ?_; exact wpS_nil ⟨rfl, rfl⟩)) z_su ?_; clear z_ex)
      ((repeat refine WpM.seq ?_); have z_ex := (And.intro @q2 (And.intro @q3 (And.intro @q4 True.intro))); refine WpM.regPE [] [(2, _), (3, _)] (by (refine s_o [(7, _)] rfl rfl rfl z_su rfl q_load z_fp z_ss ?_; refine s_o [] rfl rfl rfl z_su rfl q_build z_fp z_ss ?_; refine s_o [(2, _), (128, _)] rfl rfl rfl z_su rfl q_store z_fp z_ss ?_; refine s_o [(3, _), (129, _)] rfl rfl rfl z_su rfl q_store z_fp z_ss ?_; exact wpS_nil ⟨rfl, rfl⟩)) z_su ?_; clear z_ex)
      refine WpM.ret ?_
      refine ⟨.inr rfl, Upd.done ⟨_, (by (simp (maxSteps := 2000000) (disch := omega) [go_sem, -List.map_map, resV, resVs, resV1])), rfl, fun m k _ hk => ?_⟩⟩
      have h9 := hH _ _ hk
      have h8 := q5 m k hk
      (simp (maxSteps := 2000000) (disch := omega) [go_sem, -List.map_map, h8])
end Go.Proofs.Ytjjmedgibcffhaa
