/- Part 8 of the texts that stand behind this law. -/
import Derived.Test.YtjjmedgibcffhaaZe7
/- index.(*ledger).enter. -/
namespace Go.Proofs.Ytjjmedgibcffhaa
open Go.RowKit M
set_option linter.unusedSimpArgs false
set_option linter.unusedVariables false
/-- What entering a call leaves. -/
def EntP (At : (Nat → Option Blk) → Nat → Bk → (Nat → Prop) → Prop) (n0 : Nat) (H : Nat → Option Blk) (L : Nat) (O : Nat → Prop) (res : Except Int Bk) (r : V) (S' : St) : Prop :=
  n0 ≤ S'.next ∧ (∀ m k, ¬ O m → H m = some k → S'.get m = some k) ∧ match res with
    | .error e => r = .d (.int .i64 e) ∧ e ≠ 0
    | .ok b' => r = .d (.int .i64 0) ∧ ∃ O', (∀ m, O' m → (O m ∨ n0 ≤ m) ∧ m < S'.next) ∧ At S'.get L b' O'
set_option maxHeartbeats 8000000 in
theorem enter48 (b : Bk) (n : Nat) (hw : b.Wf n) (c : CallD) (hk1 : 1 ≤ c.kind) (hk8 : c.kind ≤ 8) (who : Int) (L : Nat) (O : Nat → Prop) (S : St) (hL : LedAt S.get L b O) (hO : ∀ m, O m → m < S.next) :
    CallM Try.prog 48 [.ptr L 0, .d (encCall c), .d (.int .i64 who)] S fun r S' => EntP LedAt S.next S.get L O (enterB b c who) r S' := by
  refine CallM.start (n := 144) Try.func48 rfl rfl (by simp) (by simp only [argL, Nat.reduceAdd] <;> rfl) ?_
  intro hH
  obtain ⟨H, hHe⟩ : ∃ H, H = S.get := ⟨_, rfl⟩
  obtain ⟨n0, hne⟩ : ∃ n0, n0 = S.next := ⟨_, rfl⟩
  rw [← hHe, ← hne] at hH ⊢
  rw [← hHe] at hL
  rw [← hne] at hO
  obtain ⟨nk, na, nt, nf, ni, am, fm, im, r, hN⟩ := hL
  obtain ⟨q1, q2, q3, q4, q5, q6, q7, q8, q9, q10, q11, q12, q13, q14⟩ := hN.ne
  have hkt := hN.hkt
  have hai := hN.hai
  have gL : L < n0 := hO _ hN.oL
  have gk : nk < n0 := hO _ hN.ok
  have ga : na < n0 := hO _ hN.oa
  have gt : nt < n0 := hO _ hN.ot
  have gf : nf < n0 := hO _ hN.of_
  have gi : ni < n0 := hO _ hN.oi
  have k1 := hN.box
  have k2 := hN.gat
  have k3 := hN.at_ c.key
  obtain ⟨v7, hv7⟩ : ∃ v, (am (.str c.key)).getD (.d (.int .i64 0)) = v := ⟨_, rfl⟩
  obtain ⟨kn, hkn⟩ : ∃ v, (am (.str c.key)).isSome = v := ⟨_, rfl⟩
  ((repeat refine WpM.seq ?_); have z_ex := (And.intro @encCall.eq_1 True.intro); refine WpM.regPE [] [(0, _), (2, _), (4, _)] (by (refine s_o [(1, _)] rfl rfl rfl z_su rfl q_box z_fp z_ss ?_; refine s_o [] rfl rfl rfl z_su rfl q_move z_fp z_ss ?_; exact wpS_nil ⟨rfl, rfl⟩)) z_su ?_; clear z_ex)
  ((repeat refine WpM.seq ?_); have z_ex := (And.intro @k1 (And.intro @k2 (And.intro @hv7 (And.intro @hkn True.intro)))); refine WpM.drwPE [] [(0, _), (2, _), (4, _), (7, _), (8, _)] mixed (by kernel_rfl) (by kernel_rfl) [] (by kernel_rfl) (by (refine d_o [(0, _)] rfl rfl rfl z_su rfl q_move z_fp z_ss rfl ?_; refine d_o [(14, _)] rfl rfl rfl z_su rfl q_move z_fp z_ss rfl ?_; refine d_o [(15, _)] rfl rfl rfl z_su rfl q_fieldAddr z_fp z_ss rfl ?_; refine d_o [(16, _)] rfl rfl rfl z_su rfl q_load z_fp z_ss rfl ?_; refine d_o [(4, _)] rfl rfl rfl z_su rfl q_fieldAddr z_fp z_ss rfl ?_; refine d_o [(18, _)] rfl rfl rfl z_su rfl q_load z_fp z_ss rfl ?_; refine d_o [(17, _), (19, _)] rfl rfl rfl z_su rfl q_lookup z_fp z_ss rfl ?_; refine d_o [(20, _)] rfl rfl rfl z_su rfl q_move z_fp z_ss rfl ?_; refine d_o [(13, _)] rfl rfl rfl z_su rfl q_extract z_fp z_ss rfl ?_; refine d_o [(13, _)] rfl rfl rfl z_su rfl q_extract z_fp z_ss rfl ?_; refine d_o [(21, _)] rfl rfl rfl z_su rfl q_move z_fp z_ss rfl ?_; refine d_o [(22, _)] rfl rfl rfl z_su rfl q_move z_fp z_ss rfl ?_; exact d_end z_mt z_sn)) z_su ?_; clear z_ex)
  refine WpM.seq ?_
  refine wpMid (Mid := fun (fr : Fr) (S' : St) => ∃ b1 k O1, addB b c = some (b1, k) ∧ LedAt S'.get L b1 O1 ∧ (∀ m, O1 m → (O m ∨ n0 < m) ∧ m < S'.next) ∧ n0 < S'.next ∧ S'.get n0 = some (.box [.d (.int .i64 c.kind), .d (.str c.key), .d (.int .i64 c.arg), .d (.bool c.got), .d (.sl (c.vals.map (D.int .i64)))]) ∧ (∀ m k, ¬ O m → H m = some k → S'.get m = some k) ∧ FrLe fr (frOf [(0, .ptr L 0), (2, .d (.int .i64 who)), (4, .ptr n0 0), (7, .d (.int .i64 k))])) ?_ ?_
  · cases hf : findN b.keys c.key with
    | none =>
      rw [hf] at k3
      simp only [Option.map_none] at k3
      obtain rfl : kn = false := by rw [← hkn, k3]; rfl
      obtain rfl : v7 = .d (.int .i64 0) := by rw [← hv7, k3]; rfl
      ((repeat refine WpM.seq ?_); have z_ex := True.intro; refine WpM.regPE [] [(0, _), (2, _), (4, _), (7, _), (24, _)] (by (refine s_o [(8, _)] rfl rfl rfl z_su rfl q_move z_fp z_ss ?_; refine s_o [(23, _)] rfl rfl rfl z_su rfl q_unOp z_fp z_ss ?_; exact wpS_nil ⟨rfl, rfl⟩)) z_su ?_; clear z_ex)
      ((repeat refine WpM.seq ?_); refine WpM.condT (by (simp (maxSteps := 2000000) (disch := omega) [go_sem, -List.map_map])) ?_)
      ((repeat refine WpM.seq ?_); have z_ex := (And.intro @k1 True.intro); refine WpM.regPE [] [(0, _), (2, _), (4, _), (30, _)] (by (refine s_o [(0, _)] rfl rfl rfl z_su rfl q_move z_fp z_ss ?_; refine s_o [(25, _)] rfl rfl rfl z_su rfl q_move z_fp z_ss ?_; refine s_o [(26, _)] rfl rfl rfl z_su rfl q_fieldAddr z_fp z_ss ?_; refine s_o [(27, _)] rfl rfl rfl z_su rfl q_load z_fp z_ss ?_; refine s_o [(28, _)] rfl rfl rfl z_su rfl q_full z_fp z_ss ?_; refine s_o [(29, _)] rfl rfl rfl z_su rfl q_full z_fp z_ss ?_; exact wpS_nil ⟨rfl, rfl⟩)) z_su ?_; clear z_ex)
      by_cases hl : b.keys.length = 32
      · ((repeat refine WpM.seq ?_); refine WpM.condT (by (simp (maxSteps := 2000000) (disch := omega) [go_sem, -List.map_map, hl])) ?_)
        have he : enterB b c who = .error 2 := by simp [enterB, addB, hf, hl]
        rw [he]
        ((repeat refine WpM.seq ?_); have z_ex := True.intro; refine WpM.regPE [] [(6, _)] (by (refine s_o [] rfl rfl rfl z_su rfl q_move z_fp z_ss ?_; exact wpS_nil ⟨rfl, rfl⟩)) z_su ?_; clear z_ex)
        refine WpM.ret ?_
        refine ⟨.inr rfl, Upd.done ⟨_, (by (simp (maxSteps := 2000000) (disch := omega) [go_sem, -List.map_map, resV, resVs, resV1])), (by show n0 ≤ n0 + _; omega), fun m k _ hk => ?_, rfl, by decide⟩⟩
        have := hH _ _ hk
        (simp (maxSteps := 2000000) (disch := omega) [go_sem, -List.map_map, hk])
      · have hl' : ¬ ((b.keys.length : Int) = 32) := by omega
        ((repeat refine WpM.seq ?_); refine WpM.condF (by (simp (maxSteps := 2000000) (disch := omega) [go_sem, -List.map_map, hl'])) ?_)
        refine WpM.skip ?_
        have hkl := hw.keys
        have ht := typeOf57 c.kind hk1 hk8
        have k4 := hN.keys
        have k5 := hN.types
        have htl := hw.types
        have t1 : (b.keys.map fun s => V.d (.str s)).take b.keys.length = b.keys.map fun s => V.d (.str s) := List.take_of_length_le (by simp)
        have t2 : (b.types.map fun s => V.d (.int .i64 s)).take b.types.length = b.types.map fun s => V.d (.int .i64 s) := List.take_of_length_le (by simp)
        ((repeat refine WpM.seq ?_); have z_ex := (And.intro @k1 True.intro); refine WpM.regPE [] [(0, _), (2, _), (4, _), (7, _)] (by (refine s_o [(0, _)] rfl rfl rfl z_su rfl q_move z_fp z_ss ?_; refine s_o [(31, _)] rfl rfl rfl z_su rfl q_move z_fp z_ss ?_; refine s_o [(32, _)] rfl rfl rfl z_su rfl q_fieldAddr z_fp z_ss ?_; refine s_o [(33, _)] rfl rfl rfl z_su rfl q_load z_fp z_ss ?_; refine s_o [(34, _)] rfl rfl rfl z_su rfl q_full z_fp z_ss ?_; refine s_o [(35, _)] rfl rfl rfl z_su rfl q_move z_fp z_ss ?_; exact wpS_nil ⟨rfl, rfl⟩)) z_su ?_; clear z_ex)
        ((repeat refine WpM.seq ?_); have z_ex := (And.intro @k1 (And.intro @k2 True.intro)); refine WpM.drwPE [] [(0, _), (2, _), (4, _), (7, _)] mixed (by kernel_rfl) (by kernel_rfl) [] (by kernel_rfl) (by (refine d_o [(0, _)] rfl rfl rfl z_su rfl q_move z_fp z_ss rfl ?_; refine d_o [(36, _)] rfl rfl rfl z_su rfl q_move z_fp z_ss rfl ?_; refine d_o [(37, _)] rfl rfl rfl z_su rfl q_fieldAddr z_fp z_ss rfl ?_; refine d_o [(38, _)] rfl rfl rfl z_su rfl q_load z_fp z_ss rfl ?_; refine d_o [(4, _)] rfl rfl rfl z_su rfl q_fieldAddr z_fp z_ss rfl ?_; refine d_o [(40, _)] rfl rfl rfl z_su rfl q_load z_fp z_ss rfl ?_; refine d_o [(7, _)] rfl rfl rfl z_su rfl q_move z_fp z_ss rfl ?_; refine d_o [(39, _), (41, _), (42, _)] rfl rfl rfl z_su rfl q_mapUpdate z_fp z_ss rfl ?_; exact d_end z_mt z_sn)) z_su ?_; clear z_ex)
        ((repeat refine WpM.seq ?_); have z_ex := (And.intro @k1 (And.intro @k4 (And.intro @t1 True.intro))); refine WpM.drwPE [] [(0, _), (2, _), (4, _), (7, _)] mixed (by kernel_rfl) (by kernel_rfl) [(4, 7)] (by kernel_rfl) (by (refine d_o [(0, _)] rfl rfl rfl z_su rfl q_move z_fp z_ss rfl ?_; refine d_o [(0, _)] rfl rfl rfl z_su rfl q_move z_fp z_ss rfl ?_; refine d_o [(44, _)] rfl rfl rfl z_su rfl q_move z_fp z_ss rfl ?_; refine d_o [(45, _)] rfl rfl rfl z_su rfl q_fieldAddr z_fp z_ss rfl ?_; refine d_o [(46, _)] rfl rfl rfl z_su rfl q_load z_fp z_ss rfl ?_; refine d_o [(4, _)] rfl rfl rfl z_su rfl q_fieldAddr z_fp z_ss rfl ?_; refine d_o [(48, _)] rfl rfl rfl z_su rfl q_load z_fp z_ss rfl ?_; refine d_o [(49, _)] rfl rfl rfl z_su rfl q_full z_fp z_ss rfl ?_; refine d_o [(47, _), (50, _)] rfl rfl rfl z_su rfl q_full z_fp z_ss rfl ?_; refine d_o [(43, _)] rfl rfl rfl z_su rfl q_move z_fp z_ss rfl ?_; refine d_o [(52, _)] rfl rfl rfl z_su rfl q_fieldAddr z_fp z_ss rfl ?_; refine d_o [(51, _), (53, _)] rfl rfl rfl z_su rfl q_store z_fp z_ss rfl ?_; exact d_end z_mt z_sn)) z_su ?_; clear z_ex)
        ((repeat refine WpM.seq ?_); have z_ex := (And.intro @k1 (And.intro @k5 (And.intro @t2 True.intro))); refine WpM.drwPE [] [(0, _), (2, _), (4, _), (7, _)] mixed (by kernel_rfl) (by kernel_rfl) [(4, 7), (4, 8)] (by kernel_rfl) (by (refine d_o [(0, _)] rfl rfl rfl z_su rfl q_move z_fp z_ss rfl ?_; refine d_o [(0, _)] rfl rfl rfl z_su rfl q_move z_fp z_ss rfl ?_; refine d_o [(55, _)] rfl rfl rfl z_su rfl q_move z_fp z_ss rfl ?_; refine d_o [(56, _)] rfl rfl rfl z_su rfl q_fieldAddr z_fp z_ss rfl ?_; refine d_o [(57, _)] rfl rfl rfl z_su rfl q_load z_fp z_ss rfl ?_; refine d_o [(4, _)] rfl rfl rfl z_su rfl q_fieldAddr z_fp z_ss rfl ?_; refine d_o [(59, _)] rfl rfl rfl z_su rfl q_load z_fp z_ss rfl ?_; refine d_pure (callOf_eq rfl rfl rfl (mlk_tmp z_lk mlk_nil)) (ht) rfl rfl z_ip rfl z_fp ?_; refine d_o [(61, _)] rfl rfl rfl z_su rfl q_full z_fp z_ss rfl ?_; refine d_o [(58, _), (62, _)] rfl rfl rfl z_su rfl q_full z_fp z_ss rfl ?_; refine d_o [(54, _)] rfl rfl rfl z_su rfl q_move z_fp z_ss rfl ?_; refine d_o [(64, _)] rfl rfl rfl z_su rfl q_fieldAddr z_fp z_ss rfl ?_; refine d_o [(63, _), (65, _)] rfl rfl rfl z_su rfl q_store z_fp z_ss rfl ?_; exact d_end z_mt z_sn)) z_su ?_; clear z_ex)
        have o1 : ¬ O (n0 + 44) := fun h => by have := hO _ h; omega
        have o2 : ¬ O (n0 + 57) := fun h => by have := hO _ h; omega
        refine ⟨b.push c, b.keys.length, fun m => O m ∨ m = n0 + 44 ∨ m = n0 + 57, by simp [addB, hf, hl], hN.push hw hf o1 o2 (by omega) (by (simp (maxSteps := 2000000) (disch := omega) [go_sem, -List.map_map])) (by (simp (maxSteps := 2000000) (disch := omega) [go_sem, -List.map_map])) (by (simp (maxSteps := 2000000) (disch := omega) [go_sem, -List.map_map])) (by (simp (maxSteps := 2000000) (disch := omega) [go_sem, -List.map_map])) (fun m k h1 h2 h3 h4 ho hk => ?_), fun m hm => ?_, ?_, ?_, fun m k ho hk => ?_, FrLe.refl _⟩
        · have := hO _ ho
          (simp (maxSteps := 2000000) (disch := omega) [go_sem, -List.map_map, hk])
        · show _ ∧ m < n0 + 61
          rcases hm with hm | rfl | rfl
          · have := hO _ hm; exact ⟨.inl hm, by omega⟩
          · exact ⟨.inr (by omega), by omega⟩
          · exact ⟨.inr (by omega), by omega⟩
        · show n0 < n0 + 61; omega
        · (simp (maxSteps := 2000000) (disch := omega) [go_sem, -List.map_map])
        · have h1 : m ≠ L := fun e => ho (e ▸ hN.oL)
          have h2 : m ≠ nk := fun e => ho (e ▸ hN.ok)
          have h3 : m ≠ nt := fun e => ho (e ▸ hN.ot)
          have h4 : m ≠ na := fun e => ho (e ▸ hN.oa)
          have := hH _ _ hk
          (simp (maxSteps := 2000000) (disch := omega) [go_sem, -List.map_map, hk])
    | some k =>
      rw [hf] at k3
      simp only [Option.map_some] at k3
      obtain rfl : kn = true := by rw [← hkn, k3]; rfl
      obtain rfl : v7 = .d (.int .i64 k) := by rw [← hv7, k3]; rfl
      ((repeat refine WpM.seq ?_); have z_ex := True.intro; refine WpM.regPE [] [(0, _), (2, _), (4, _), (7, _), (24, _)] (by (refine s_o [(8, _)] rfl rfl rfl z_su rfl q_move z_fp z_ss ?_; refine s_o [(23, _)] rfl rfl rfl z_su rfl q_unOp z_fp z_ss ?_; exact wpS_nil ⟨rfl, rfl⟩)) z_su ?_; clear z_ex)
      ((repeat refine WpM.seq ?_); refine WpM.condF (by (simp (maxSteps := 2000000) (disch := omega) [go_sem, -List.map_map])) ?_)
      refine WpM.skip ?_
      refine ⟨b, k, O, by simp [addB, hf], ?_, fun m hm => ⟨.inl hm, ?_⟩, ?_, ?_, fun m k ho hk => ?_, ?_⟩
      · refine LedAt.same (G := H) ⟨nk, na, nt, nf, ni, am, fm, im, r, hN⟩ fun m k ho hk => ?_
        have := hO _ ho
        (simp (maxSteps := 2000000) (disch := omega) [go_sem, -List.map_map, hk])
      · have := hO _ hm; show m < n0 + _; omega
      · show n0 < n0 + _; omega
      · (simp (maxSteps := 2000000) (disch := omega) [go_sem, -List.map_map])
      · have := hH _ _ hk
        (simp (maxSteps := 2000000) (disch := omega) [go_sem, -List.map_map, hk])
      · exact frLe_frOf (by (simp (maxSteps := 2000000) (disch := omega) [go_sem, -List.map_map]))
  clear hkn hv7 k1 k2 k3 hN q1 q2 q3 q4 q5 q6 q7 q8 q9 q10 q11 q12 q13 q14 hkt hai gL gk ga gt gf gi
  rintro fr S' ⟨b1, k, O1, hadd, ⟨nk, na, nt, nf, ni, am, fm, im, r, hN⟩, hO1, hnx, hc, old, hfr⟩
  refine WpM.less (St.Le.refl _) hfr ?_
  refine WpM.norm ?_
  intro nx G hnx2 hG2 hGk
  rw [← hG2] at hN hc old
  rw [← hnx2] at hnx hO1
  clear hG2 hnx2 hfr
  obtain ⟨hw1, hf1⟩ := addB_wf hw hadd
  have hen : enterB b c who = putB b1 k c who := by simp [enterB, hadd]
  rw [hen]
  clear hen hadd
  obtain ⟨q1, q2, q3, q4, q5, q6, q7, q8, q9, q10, q11, q12, q13, q14⟩ := hN.ne
  have hkt := hN.hkt
  have hai := hN.hai
  have on0 : ¬ O1 n0 := fun h => by
    rcases (hO1 _ h).1 with h' | h'
    · have := hO _ h'; omega
    · omega
  have gL : L < nx := (hO1 _ hN.oL).2
  have gk : nk < nx := (hO1 _ hN.ok).2
  have ga : na < nx := (hO1 _ hN.oa).2
  have gt : nt < nx := (hO1 _ hN.ot).2
  have gf : nf < nx := (hO1 _ hN.of_).2
  have gi : ni < nx := (hO1 _ hN.oi).2
  have nL : n0 ≠ L := fun e => on0 (e ▸ hN.oL)
  have nk0 : n0 ≠ nk := fun e => on0 (e ▸ hN.ok)
  have na0 : n0 ≠ na := fun e => on0 (e ▸ hN.oa)
  have nt0 : n0 ≠ nt := fun e => on0 (e ▸ hN.ot)
  have nf0 : n0 ≠ nf := fun e => on0 (e ▸ hN.of_)
  have ni0 : n0 ≠ ni := fun e => on0 (e ▸ hN.oi)
  have k1 := hN.box
  have k5 := hN.types
  have hkl := findN_lt hf1
  have htl := hw1.types
  have hkt1 : k < b1.types.length := by omega
  obtain ⟨ty, hty0⟩ : ∃ ty, ty = b1.types.getD k 0 := ⟨_, rfl⟩
  have hgt : (b1.types.map fun t => V.d (.int .i64 t))[k]? = some (.d (.int .i64 ty)) := by rw [hty0]; simp [hkt1]
  have ht := typeOf57 c.kind hk1 hk8
  have oldO : ∀ m k, ¬ O m → H m = some k → m < nx ∧ G m = some k ∧ m ≠ n0 := fun m k ho hk => by
    have h1 := old m k ho hk
    have h2 := hGk _ _ h1
    have h3 := hH _ _ hk
    exact ⟨h2, h1, by omega⟩
  ((repeat refine WpM.seq ?_); have z_ex := (And.intro @k1 (And.intro @k5 (And.intro @hgt (And.intro @hkt1 (And.intro @hc True.intro))))); refine WpM.drwPE [] [(0, _), (2, _), (4, _), (76, _)] mixed (by kernel_rfl) (by kernel_rfl) [(3, 9), (6, 9)] (by kernel_rfl) (by (refine d_o [(0, _)] rfl rfl rfl z_su rfl q_move z_fp z_ss rfl ?_; refine d_o [(66, _)] rfl rfl rfl z_su rfl q_move z_fp z_ss rfl ?_; refine d_o [(67, _)] rfl rfl rfl z_su rfl q_fieldAddr z_fp z_ss rfl ?_; refine d_o [(68, _)] rfl rfl rfl z_su rfl q_load z_fp z_ss rfl ?_; refine d_o [(7, _)] rfl rfl rfl z_su rfl q_move z_fp z_ss rfl ?_; refine d_o [(69, _), (70, _)] rfl rfl rfl z_su rfl q_full z_fp z_ss rfl ?_; refine d_o [(71, _)] rfl rfl rfl z_su rfl q_load z_fp z_ss rfl ?_; refine d_o [(4, _)] rfl rfl rfl z_su rfl q_fieldAddr z_fp z_ss rfl ?_; refine d_o [(73, _)] rfl rfl rfl z_su rfl q_load z_fp z_ss rfl ?_; refine d_pure (callOf_eq rfl rfl rfl (mlk_tmp z_lk mlk_nil)) (ht) rfl rfl z_ip rfl z_fp ?_; refine d_o [(72, _), (75, _)] rfl rfl rfl z_su rfl q_full z_fp z_ss rfl ?_; exact d_end z_mt z_sn)) z_su ?_; clear z_ex)
  by_cases hty : ty = tyOf c.kind
  · ((repeat refine WpM.seq ?_); refine WpM.condF (by (simp (maxSteps := 2000000) (disch := omega) [go_sem, -List.map_map, hty])) ?_)
    refine WpM.skip ?_
    ((repeat refine WpM.seq ?_); have z_ex := (And.intro @hc True.intro); refine WpM.regPE [] [(0, _), (2, _), (4, _), (78, _)] (by (refine s_o [(4, _)] rfl rfl rfl z_su rfl q_fieldAddr z_fp z_ss ?_; refine s_o [(77, _)] rfl rfl rfl z_su rfl q_load z_fp z_ss ?_; exact wpS_nil ⟨rfl, rfl⟩)) z_su ?_; clear z_ex)
    ((repeat refine WpM.seq ?_); refine WpM.block ?_)
    have hput : putB b1 k c who = if c.kind = 2 ∨ c.kind = 3 then
        if c.arg ∈ b1.wrote.getD k [] then .error 3 else .ok { b1 with wrote := b1.wrote.set k (b1.wrote.getD k [] ++ [c.arg]) }
      else if c.kind = 4 then
        if 8 < (incNext (b1.incs.getD k []) who).length then .error 51 else .ok { b1 with incs := b1.incs.set k (incNext (b1.incs.getD k []) who) }
      else .ok b1 := by rw [putB, ← hty0, if_neg (by simpa using hty)]
    rw [hput]
    clear hput
    by_cases h23 : c.kind = 2 ∨ c.kind = 3
    · rw [if_pos h23]
      have hfx := hN.fact c.key c.arg
      have hfe : factB b1 c.key c.arg = decide (c.arg ∈ b1.wrote.getD k []) := by rw [factB, hf1]
      rw [hfe] at hfx
      have k6 := hN.gfact
      rcases h23 with h2 | h2
      · ((repeat refine WpM.seq ?_); have z_ex := (And.intro @h2 True.intro); refine WpM.regPE [] [(0, _), (2, _), (4, _), (78, _), (79, _)] (by (refine s_o [(78, _)] rfl rfl rfl z_su rfl q_full z_fp z_ss ?_; refine s_o [(80, _)] rfl rfl rfl z_su rfl q_move z_fp z_ss ?_; exact wpS_nil ⟨rfl, rfl⟩)) z_su ?_; clear z_ex)
        ((repeat refine WpM.seq ?_); refine WpM.condT (by (simp (maxSteps := 2000000) (disch := omega) [go_sem, -List.map_map, h2])) ?_)
        refine WpM.skip ?_
        ((repeat refine WpM.seq ?_); refine WpM.condT (by (simp (maxSteps := 2000000) (disch := omega) [go_sem, -List.map_map, h2])) ?_)
        ((repeat refine WpM.seq ?_); have z_ex := (And.intro @hc True.intro); refine WpM.regPE [] [(0, _), (9, _)] (by (refine s_o [(4, _)] rfl rfl rfl z_su rfl q_fieldAddr z_fp z_ss ?_; refine s_o [(82, _)] rfl rfl rfl z_su rfl q_load z_fp z_ss ?_; refine s_o [(4, _)] rfl rfl rfl z_su rfl q_fieldAddr z_fp z_ss ?_; refine s_o [(84, _)] rfl rfl rfl z_su rfl q_load z_fp z_ss ?_; refine s_o [(83, _), (85, _)] rfl rfl rfl z_su rfl q_build z_fp z_ss ?_; refine s_o [] rfl rfl rfl z_su rfl q_alloc z_fp z_ss ?_; refine s_o [(9, _), (86, _)] rfl rfl rfl z_su rfl q_store z_fp z_ss ?_; exact wpS_nil ⟨rfl, rfl⟩)) z_su ?_; clear z_ex)
        by_cases hin : c.arg ∈ b1.wrote.getD k []
        · rw [if_pos hin]
          simp only [hin, decide_true, if_true] at hfx
          ((repeat refine WpM.seq ?_); have z_ex := (And.intro @k1 (And.intro @k6 (And.intro @hfx True.intro))); refine WpM.drwPE [] [(0, _), (9, _), (11, _)] mixed (by kernel_rfl) (by kernel_rfl) [(3, 9), (4, 9), (5, 9)] (by kernel_rfl) (by (refine d_o [(0, _)] rfl rfl rfl z_su rfl q_move z_fp z_ss rfl ?_; refine d_o [(88, _)] rfl rfl rfl z_su rfl q_move z_fp z_ss rfl ?_; refine d_o [(89, _)] rfl rfl rfl z_su rfl q_fieldAddr z_fp z_ss rfl ?_; refine d_o [(90, _)] rfl rfl rfl z_su rfl q_load z_fp z_ss rfl ?_; refine d_o [(9, _)] rfl rfl rfl z_su rfl q_load z_fp z_ss rfl ?_; refine d_o [(91, _), (92, _)] rfl rfl rfl z_su rfl q_lookup z_fp z_ss rfl ?_; refine d_o [(93, _)] rfl rfl rfl z_su rfl q_move z_fp z_ss rfl ?_; refine d_o [(87, _)] rfl rfl rfl z_su rfl q_extract z_fp z_ss rfl ?_; refine d_o [(87, _)] rfl rfl rfl z_su rfl q_extract z_fp z_ss rfl ?_; refine d_o [] rfl rfl rfl z_su rfl q_alloc z_fp z_ss rfl ?_; refine d_o [(10, _), (94, _)] rfl rfl rfl z_su rfl q_store z_fp z_ss rfl ?_; refine d_o [(95, _)] rfl rfl rfl z_su rfl q_move z_fp z_ss rfl ?_; exact d_end z_mt z_sn)) z_su ?_; clear z_ex)
          ((repeat refine WpM.seq ?_); have z_ex := True.intro; refine WpM.regPE [] [(0, _), (9, _), (96, _)] (by (refine s_o [(11, _)] rfl rfl rfl z_su rfl q_move z_fp z_ss ?_; exact wpS_nil ⟨rfl, rfl⟩)) z_su ?_; clear z_ex)
          ((repeat refine WpM.seq ?_); refine WpM.condT (by (simp (maxSteps := 2000000) (disch := omega) [go_sem, -List.map_map])) ?_)
          ((repeat refine WpM.seq ?_); have z_ex := True.intro; refine WpM.regPE [] [(6, _)] (by (refine s_o [] rfl rfl rfl z_su rfl q_move z_fp z_ss ?_; exact wpS_nil ⟨rfl, rfl⟩)) z_su ?_; clear z_ex)
          refine WpM.ret ?_
          refine ⟨.inr rfl, Upd.done ⟨_, (by (simp (maxSteps := 2000000) (disch := omega) [go_sem, -List.map_map, resV, resVs, resV1])), (by show n0 ≤ nx + _; omega), fun m k ho hk => ?_, rfl, by decide⟩⟩
          obtain ⟨h1, h2, h3⟩ := oldO m k ho hk
          (simp (maxSteps := 2000000) (disch := omega) [go_sem, -List.map_map, h2])
        · rw [if_neg hin]
          simp only [hin, decide_false, Bool.false_eq_true, if_false] at hfx
          ((repeat refine WpM.seq ?_); have z_ex := (And.intro @k1 (And.intro @k6 (And.intro @hfx True.intro))); refine WpM.drwPE [] [(0, _), (9, _), (11, _)] mixed (by kernel_rfl) (by kernel_rfl) [(3, 9), (4, 9), (5, 9)] (by kernel_rfl) (by (refine d_o [(0, _)] rfl rfl rfl z_su rfl q_move z_fp z_ss rfl ?_; refine d_o [(88, _)] rfl rfl rfl z_su rfl q_move z_fp z_ss rfl ?_; refine d_o [(89, _)] rfl rfl rfl z_su rfl q_fieldAddr z_fp z_ss rfl ?_; refine d_o [(90, _)] rfl rfl rfl z_su rfl q_load z_fp z_ss rfl ?_; refine d_o [(9, _)] rfl rfl rfl z_su rfl q_load z_fp z_ss rfl ?_; refine d_o [(91, _), (92, _)] rfl rfl rfl z_su rfl q_lookup z_fp z_ss rfl ?_; refine d_o [(93, _)] rfl rfl rfl z_su rfl q_move z_fp z_ss rfl ?_; refine d_o [(87, _)] rfl rfl rfl z_su rfl q_extract z_fp z_ss rfl ?_; refine d_o [(87, _)] rfl rfl rfl z_su rfl q_extract z_fp z_ss rfl ?_; refine d_o [] rfl rfl rfl z_su rfl q_alloc z_fp z_ss rfl ?_; refine d_o [(10, _), (94, _)] rfl rfl rfl z_su rfl q_store z_fp z_ss rfl ?_; refine d_o [(95, _)] rfl rfl rfl z_su rfl q_move z_fp z_ss rfl ?_; exact d_end z_mt z_sn)) z_su ?_; clear z_ex)
          ((repeat refine WpM.seq ?_); have z_ex := True.intro; refine WpM.regPE [] [(0, _), (9, _), (96, _)] (by (refine s_o [(11, _)] rfl rfl rfl z_su rfl q_move z_fp z_ss ?_; exact wpS_nil ⟨rfl, rfl⟩)) z_su ?_; clear z_ex)
          ((repeat refine WpM.seq ?_); refine WpM.condF (by (simp (maxSteps := 2000000) (disch := omega) [go_sem, -List.map_map])) ?_)
          refine WpM.skip ?_
          ((repeat refine WpM.seq ?_); have z_ex := (And.intro @k1 (And.intro @k6 True.intro)); refine WpM.drwPE [] [] mixed (by kernel_rfl) (by kernel_rfl) [] (by kernel_rfl) (by (refine d_o [(0, _)] rfl rfl rfl z_su rfl q_move z_fp z_ss rfl ?_; refine d_o [(97, _)] rfl rfl rfl z_su rfl q_move z_fp z_ss rfl ?_; refine d_o [(98, _)] rfl rfl rfl z_su rfl q_fieldAddr z_fp z_ss rfl ?_; refine d_o [(99, _)] rfl rfl rfl z_su rfl q_load z_fp z_ss rfl ?_; refine d_o [(9, _)] rfl rfl rfl z_su rfl q_load z_fp z_ss rfl ?_; refine d_o [] rfl rfl rfl z_su rfl q_build z_fp z_ss rfl ?_; refine d_o [(100, _), (101, _), (102, _)] rfl rfl rfl z_su rfl q_mapUpdate z_fp z_ss rfl ?_; exact d_end z_mt z_sn)) z_su ?_; clear z_ex)
          ((repeat refine WpM.seq ?_); have z_ex := True.intro; refine WpM.regPE [] [(6, _)] (by (refine s_o [] rfl rfl rfl z_su rfl q_move z_fp z_ss ?_; exact wpS_nil ⟨rfl, rfl⟩)) z_su ?_; clear z_ex)
          refine WpM.ret ?_
          refine ⟨.inr rfl, Upd.done ⟨_, (by (simp (maxSteps := 2000000) (disch := omega) [go_sem, -List.map_map, resV, resVs, resV1])), (by show n0 ≤ nx + _; omega), fun m k ho hk => ?_, rfl, O1, fun m hm => ⟨(hO1 m hm).1.imp id (fun h => by omega), ?_⟩, hN.wrote hw1 hf1 (by (simp (maxSteps := 2000000) (disch := omega) [go_sem, -List.map_map])) fun m k h1 ho hk => ?_⟩⟩
          · obtain ⟨h1, h2, h3⟩ := oldO m k ho hk
            have h4 : m ≠ nf := fun e => by
              rcases (hO1 _ hN.of_).1 with h | h
              · exact ho (e ▸ h)
              · have := hH _ _ hk; omega
            (simp (maxSteps := 2000000) (disch := omega) [go_sem, -List.map_map, h2])
          · have := (hO1 m hm).2; show m < nx + _; omega
          · have h2 := (hO1 _ ho).2
            have h3 : m ≠ n0 := fun e => on0 (e ▸ ho)
            (simp (maxSteps := 2000000) (disch := omega) [go_sem, -List.map_map, hk])
      · ((repeat refine WpM.seq ?_); have z_ex := (And.intro @h2 True.intro); refine WpM.regPE [] [(0, _), (2, _), (4, _), (78, _), (79, _)] (by (refine s_o [(78, _)] rfl rfl rfl z_su rfl q_full z_fp z_ss ?_; refine s_o [(80, _)] rfl rfl rfl z_su rfl q_move z_fp z_ss ?_; exact wpS_nil ⟨rfl, rfl⟩)) z_su ?_; clear z_ex)
        ((repeat refine WpM.seq ?_); refine WpM.condF (by (simp (maxSteps := 2000000) (disch := omega) [go_sem, -List.map_map, h2])) ?_)
        ((repeat refine WpM.seq ?_); have z_ex := (And.intro @h2 True.intro); refine WpM.regPE [] [(0, _), (2, _), (4, _), (78, _), (79, _)] (by (refine s_o [(78, _)] rfl rfl rfl z_su rfl q_full z_fp z_ss ?_; refine s_o [(81, _)] rfl rfl rfl z_su rfl q_move z_fp z_ss ?_; exact wpS_nil ⟨rfl, rfl⟩)) z_su ?_; clear z_ex)
        ((repeat refine WpM.seq ?_); refine WpM.condT (by (simp (maxSteps := 2000000) (disch := omega) [go_sem, -List.map_map, h2])) ?_)
        ((repeat refine WpM.seq ?_); have z_ex := (And.intro @hc True.intro); refine WpM.regPE [] [(0, _), (9, _)] (by (refine s_o [(4, _)] rfl rfl rfl z_su rfl q_fieldAddr z_fp z_ss ?_; refine s_o [(82, _)] rfl rfl rfl z_su rfl q_load z_fp z_ss ?_; refine s_o [(4, _)] rfl rfl rfl z_su rfl q_fieldAddr z_fp z_ss ?_; refine s_o [(84, _)] rfl rfl rfl z_su rfl q_load z_fp z_ss ?_; refine s_o [(83, _), (85, _)] rfl rfl rfl z_su rfl q_build z_fp z_ss ?_; refine s_o [] rfl rfl rfl z_su rfl q_alloc z_fp z_ss ?_; refine s_o [(9, _), (86, _)] rfl rfl rfl z_su rfl q_store z_fp z_ss ?_; exact wpS_nil ⟨rfl, rfl⟩)) z_su ?_; clear z_ex)
        by_cases hin : c.arg ∈ b1.wrote.getD k []
        · rw [if_pos hin]
          simp only [hin, decide_true, if_true] at hfx
          ((repeat refine WpM.seq ?_); have z_ex := (And.intro @k1 (And.intro @k6 (And.intro @hfx True.intro))); refine WpM.drwPE [] [(0, _), (9, _), (11, _)] mixed (by kernel_rfl) (by kernel_rfl) [(3, 9), (4, 9), (5, 9)] (by kernel_rfl) (by (refine d_o [(0, _)] rfl rfl rfl z_su rfl q_move z_fp z_ss rfl ?_; refine d_o [(88, _)] rfl rfl rfl z_su rfl q_move z_fp z_ss rfl ?_; refine d_o [(89, _)] rfl rfl rfl z_su rfl q_fieldAddr z_fp z_ss rfl ?_; refine d_o [(90, _)] rfl rfl rfl z_su rfl q_load z_fp z_ss rfl ?_; refine d_o [(9, _)] rfl rfl rfl z_su rfl q_load z_fp z_ss rfl ?_; refine d_o [(91, _), (92, _)] rfl rfl rfl z_su rfl q_lookup z_fp z_ss rfl ?_; refine d_o [(93, _)] rfl rfl rfl z_su rfl q_move z_fp z_ss rfl ?_; refine d_o [(87, _)] rfl rfl rfl z_su rfl q_extract z_fp z_ss rfl ?_; refine d_o [(87, _)] rfl rfl rfl z_su rfl q_extract z_fp z_ss rfl ?_; refine d_o [] rfl rfl rfl z_su rfl q_alloc z_fp z_ss rfl ?_; refine d_o [(10, _), (94, _)] rfl rfl rfl z_su rfl q_store z_fp z_ss rfl ?_; refine d_o [(95, _)] rfl rfl rfl z_su rfl q_move z_fp z_ss rfl ?_; exact d_end z_mt z_sn)) z_su ?_; clear z_ex)
          ((repeat refine WpM.seq ?_); have z_ex := True.intro; refine WpM.regPE [] [(0, _), (9, _), (96, _)] (by (refine s_o [(11, _)] rfl rfl rfl z_su rfl q_move z_fp z_ss ?_; exact wpS_nil ⟨rfl, rfl⟩)) z_su ?_; clear z_ex)
          ((repeat refine WpM.seq ?_); refine WpM.condT (by (simp (maxSteps := 2000000) (disch := omega) [go_sem, -List.map_map])) ?_)
          ((repeat refine WpM.seq ?_); have z_ex := True.intro; refine WpM.regPE [] [(6, _)] (by (refine s_o [] rfl rfl rfl z_su rfl q_move z_fp z_ss ?_; exact wpS_nil ⟨rfl, rfl⟩)) z_su ?_; clear z_ex)
          refine WpM.ret ?_
          refine ⟨.inr rfl, Upd.done ⟨_, (by (simp (maxSteps := 2000000) (disch := omega) [go_sem, -List.map_map, resV, resVs, resV1])), (by show n0 ≤ nx + _; omega), fun m k ho hk => ?_, rfl, by decide⟩⟩
          obtain ⟨h1, h2, h3⟩ := oldO m k ho hk
          (simp (maxSteps := 2000000) (disch := omega) [go_sem, -List.map_map, h2])
        · rw [if_neg hin]
          simp only [hin, decide_false, Bool.false_eq_true, if_false] at hfx
          ((repeat refine WpM.seq ?_); have z_ex := (And.intro @k1 (And.intro @k6 (And.intro @hfx True.intro))); refine WpM.drwPE [] [(0, _), (9, _), (11, _)] mixed (by kernel_rfl) (by kernel_rfl) [(3, 9), (4, 9), (5, 9)] (by kernel_rfl) (by (refine d_o [(0, _)] rfl rfl rfl z_su rfl q_move z_fp z_ss rfl ?_; refine d_o [(88, _)] rfl rfl rfl z_su rfl q_move z_fp z_ss rfl ?_; refine d_o [(89, _)] rfl rfl rfl z_su rfl q_fieldAddr z_fp z_ss rfl ?_; refine d_o [(90, _)] rfl rfl rfl z_su rfl q_load z_fp z_ss rfl ?_; refine d_o [(9, _)] rfl rfl rfl z_su rfl q_load z_fp z_ss rfl ?_; refine d_o [(91, _), (92, _)] rfl rfl rfl z_su rfl q_lookup z_fp z_ss rfl ?_; refine d_o [(93, _)] rfl rfl rfl z_su rfl q_move z_fp z_ss rfl ?_; refine d_o [(87, _)] rfl rfl rfl z_su rfl q_extract z_fp z_ss rfl ?_; refine d_o [(87, _)] rfl rfl rfl z_su rfl q_extract z_fp z_ss rfl ?_; refine d_o [] rfl rfl rfl z_su rfl q_alloc z_fp z_ss rfl ?_; refine d_o [(10, _), (94, _)] rfl rfl rfl z_su rfl q_store z_fp z_ss rfl ?_; refine d_o [(95, _)] rfl rfl rfl z_su rfl q_move z_fp z_ss rfl ?_; exact d_end z_mt z_sn)) z_su ?_; clear z_ex)
          ((repeat refine WpM.seq ?_); have z_ex := True.intro; refine WpM.regPE [] [(0, _), (9, _), (96, _)] (by (refine s_o [(11, _)] rfl rfl rfl z_su rfl q_move z_fp z_ss ?_; exact wpS_nil ⟨rfl, rfl⟩)) z_su ?_; clear z_ex)
          ((repeat refine WpM.seq ?_); refine WpM.condF (by (simp (maxSteps := 2000000) (disch := omega) [go_sem, -List.map_map])) ?_)
          refine WpM.skip ?_
          ((repeat refine WpM.seq ?_); have z_ex := (And.intro @k1 (And.intro @k6 True.intro)); refine WpM.drwPE [] [] mixed (by kernel_rfl) (by kernel_rfl) [] (by kernel_rfl) (by (refine d_o [(0, _)] rfl rfl rfl z_su rfl q_move z_fp z_ss rfl ?_; refine d_o [(97, _)] rfl rfl rfl z_su rfl q_move z_fp z_ss rfl ?_; refine d_o [(98, _)] rfl rfl rfl z_su rfl q_fieldAddr z_fp z_ss rfl ?_; refine d_o [(99, _)] rfl rfl rfl z_su rfl q_load z_fp z_ss rfl ?_; refine d_o [(9, _)] rfl rfl rfl z_su rfl q_load z_fp z_ss rfl ?_; refine d_o [] rfl rfl rfl z_su rfl q_build z_fp z_ss rfl ?_; refine d_o [(100, _), (101, _), (102, _)] rfl rfl rfl z_su rfl q_mapUpdate z_fp z_ss rfl ?_; exact d_end z_mt z_sn)) z_su ?_; clear z_ex)
          ((repeat refine WpM.seq ?_); have z_ex := True.intro; refine WpM.regPE [] [(6, _)] (by (refine s_o [] rfl rfl rfl z_su rfl q_move z_fp z_ss ?_; exact wpS_nil ⟨rfl, rfl⟩)) z_su ?_; clear z_ex)
          refine WpM.ret ?_
          refine ⟨.inr rfl, Upd.done ⟨_, (by (simp (maxSteps := 2000000) (disch := omega) [go_sem, -List.map_map, resV, resVs, resV1])), (by show n0 ≤ nx + _; omega), fun m k ho hk => ?_, rfl, O1, fun m hm => ⟨(hO1 m hm).1.imp id (fun h => by omega), ?_⟩, hN.wrote hw1 hf1 (by (simp (maxSteps := 2000000) (disch := omega) [go_sem, -List.map_map])) fun m k h1 ho hk => ?_⟩⟩
          · obtain ⟨h1, h2, h3⟩ := oldO m k ho hk
            have h4 : m ≠ nf := fun e => by
              rcases (hO1 _ hN.of_).1 with h | h
              · exact ho (e ▸ h)
              · have := hH _ _ hk; omega
            (simp (maxSteps := 2000000) (disch := omega) [go_sem, -List.map_map, h2])
          · have := (hO1 m hm).2; show m < nx + _; omega
          · have h2 := (hO1 _ ho).2
            have h3 : m ≠ n0 := fun e => on0 (e ▸ ho)
            (simp (maxSteps := 2000000) (disch := omega) [go_sem, -List.map_map, hk])
    · rw [if_neg h23]
      have h2 : ¬ c.kind = 2 := fun h => h23 (.inl h)
      have h3 : ¬ c.kind = 3 := fun h => h23 (.inr h)
      ((repeat refine WpM.seq ?_); have z_ex := (And.intro @h2 True.intro); refine WpM.regPE [] [(0, _), (2, _), (4, _), (78, _), (79, _)] (by (refine s_o [(78, _)] rfl rfl rfl z_su rfl q_full z_fp z_ss ?_; refine s_o [(80, _)] rfl rfl rfl z_su rfl q_move z_fp z_ss ?_; exact wpS_nil ⟨rfl, rfl⟩)) z_su ?_; clear z_ex)
      ((repeat refine WpM.seq ?_); refine WpM.condF (by (simp (maxSteps := 2000000) (disch := omega) [go_sem, -List.map_map, h2])) ?_)
      ((repeat refine WpM.seq ?_); have z_ex := (And.intro @h3 True.intro); refine WpM.regPE [] [(0, _), (2, _), (4, _), (78, _), (79, _)] (by (refine s_o [(78, _)] rfl rfl rfl z_su rfl q_full z_fp z_ss ?_; refine s_o [(81, _)] rfl rfl rfl z_su rfl q_move z_fp z_ss ?_; exact wpS_nil ⟨rfl, rfl⟩)) z_su ?_; clear z_ex)
      ((repeat refine WpM.seq ?_); refine WpM.condF (by (simp (maxSteps := 2000000) (disch := omega) [go_sem, -List.map_map, h3])) ?_)
      by_cases h4 : c.kind = 4
      · rw [if_pos h4]
        ((repeat refine WpM.seq ?_); have z_ex := (And.intro @h4 True.intro); refine WpM.regPE [] [(0, _), (2, _), (4, _), (103, _)] (by (refine s_o [(78, _)] rfl rfl rfl z_su rfl q_full z_fp z_ss ?_; refine s_o [(104, _)] rfl rfl rfl z_su rfl q_move z_fp z_ss ?_; exact wpS_nil ⟨rfl, rfl⟩)) z_su ?_; clear z_ex)
        ((repeat refine WpM.seq ?_); refine WpM.condT (by (simp (maxSteps := 2000000) (disch := omega) [go_sem, -List.map_map, h4])) ?_)
        have hie : incB b1 c.key = b1.incs.getD k [] := by rw [incB, hf1]
        have hil := hw1.ilen k
        have k7 := hN.ginc
        have hi0 := hN.inc0 c.key
        have hi1 := hN.inc1 c.key
        have hr1 := q14 c.key
        obtain ⟨l, hl⟩ : ∃ l, l = b1.incs.getD k [] := ⟨_, rfl⟩
        rw [hie] at hi0 hi1 hr1
        rw [← hl] at hi0 hi1 hil hr1 ⊢
        cases hcl : l.getLast? with
        | none =>
          obtain rfl : l = [] := by simpa using hcl
          have k8 := hi0 rfl
          have hinc : incNext [] who = b1.incs.getD k [] ++ [who] := by rw [← hl]; simp [incNext]
          rw [hinc, if_neg (by rw [← hl]; simp)]
          ((repeat refine WpM.seq ?_); have z_ex := (And.intro @hc (And.intro @k1 (And.intro @k7 (And.intro @k8 True.intro)))); refine WpM.drwPE [] [(0, _), (2, _), (4, _), (12, _)] mixed (by kernel_rfl) (by kernel_rfl) [] (by kernel_rfl) (by (refine d_o [(0, _)] rfl rfl rfl z_su rfl q_move z_fp z_ss rfl ?_; refine d_o [(105, _)] rfl rfl rfl z_su rfl q_move z_fp z_ss rfl ?_; refine d_o [(106, _)] rfl rfl rfl z_su rfl q_fieldAddr z_fp z_ss rfl ?_; refine d_o [(107, _)] rfl rfl rfl z_su rfl q_load z_fp z_ss rfl ?_; refine d_o [(4, _)] rfl rfl rfl z_su rfl q_fieldAddr z_fp z_ss rfl ?_; refine d_o [(109, _)] rfl rfl rfl z_su rfl q_load z_fp z_ss rfl ?_; refine d_o [(108, _), (110, _)] rfl rfl rfl z_su rfl q_lookup z_fp z_ss rfl ?_; refine d_o [(111, _)] rfl rfl rfl z_su rfl q_move z_fp z_ss rfl ?_; exact d_end z_mt z_sn)) z_su ?_; clear z_ex)
          ((repeat refine WpM.seq ?_); have z_ex := True.intro; refine WpM.regPE [] [(0, _), (2, _), (4, _), (12, _), (124, _)] (by (refine s_o [(12, _)] rfl rfl rfl z_su rfl q_move z_fp z_ss ?_; refine s_o [(112, _)] rfl rfl rfl z_su rfl q_full z_fp z_ss ?_; refine s_o [(113, _)] rfl rfl rfl z_su rfl q_full z_fp z_ss ?_; refine s_o [(114, _)] rfl rfl rfl z_su rfl q_move z_fp z_ss ?_; refine s_wit ?_; intro z_g; (first | refine s_skip rfl z_g z_fp ?_ | (refine s_o [(12, _)] rfl z_g rfl z_su rfl q_move z_fp z_ss ?_)); clear z_g; refine s_wit ?_; intro z_g; (first | refine s_skip rfl z_g z_fp ?_ | (refine s_o [(12, _)] rfl z_g rfl z_su rfl q_move z_fp z_ss ?_)); clear z_g; refine s_wit ?_; intro z_g; (first | refine s_skip rfl z_g z_fp ?_ | (refine s_o [(117, _)] rfl z_g rfl z_su rfl q_full z_fp z_ss ?_)); clear z_g; refine s_wit ?_; intro z_g; (first | refine s_skip rfl z_g z_fp ?_ | (refine s_o [(118, _)] rfl z_g rfl z_su rfl q_full z_fp z_ss ?_)); clear z_g; refine s_wit ?_; intro z_g; (first | refine s_skip rfl z_g z_fp ?_ | (refine s_o [(116, _), (119, _)] rfl z_g rfl z_su rfl q_full z_fp z_ss ?_)); clear z_g; refine s_wit ?_; intro z_g; (first | refine s_skip rfl z_g z_fp ?_ | (refine s_o [(120, _)] rfl z_g rfl z_su rfl q_load z_fp z_ss ?_)); clear z_g; refine s_wit ?_; intro z_g; (first | refine s_skip rfl z_g z_fp ?_ | (refine s_o [(2, _)] rfl z_g rfl z_su rfl q_move z_fp z_ss ?_)); clear z_g; refine s_wit ?_; intro z_g; (first | refine s_skip rfl z_g z_fp ?_ | (refine s_o [(121, _), (122, _)] rfl z_g rfl z_su rfl q_full z_fp z_ss ?_)); clear z_g; refine s_o [(115, _), (123, _)] rfl rfl rfl z_su rfl q_move z_fp z_ss ?_; exact wpS_nil ⟨rfl, rfl⟩)) z_su ?_; clear z_ex)
          ((repeat refine WpM.seq ?_); refine WpM.condT (by (simp (maxSteps := 2000000) (disch := omega) [go_sem, -List.map_map])) ?_)
          ((repeat refine WpM.seq ?_); have z_ex := (And.intro @hc (And.intro @k1 (And.intro @k7 True.intro))); refine WpM.drwPE [] [(0, _), (4, _)] mixed (by kernel_rfl) (by kernel_rfl) [(3, 8), (5, 8), (3, 9), (5, 9)] (by kernel_rfl) (by (refine d_o [(0, _)] rfl rfl rfl z_su rfl q_move z_fp z_ss rfl ?_; refine d_o [(125, _)] rfl rfl rfl z_su rfl q_move z_fp z_ss rfl ?_; refine d_o [(126, _)] rfl rfl rfl z_su rfl q_fieldAddr z_fp z_ss rfl ?_; refine d_o [(127, _)] rfl rfl rfl z_su rfl q_load z_fp z_ss rfl ?_; refine d_o [(4, _)] rfl rfl rfl z_su rfl q_fieldAddr z_fp z_ss rfl ?_; refine d_o [(129, _)] rfl rfl rfl z_su rfl q_load z_fp z_ss rfl ?_; refine d_o [(12, _)] rfl rfl rfl z_su rfl q_move z_fp z_ss rfl ?_; refine d_o [(2, _)] rfl rfl rfl z_su rfl q_move z_fp z_ss rfl ?_; refine d_o [(132, _)] rfl rfl rfl z_su rfl q_full z_fp z_ss rfl ?_; refine d_o [(131, _), (133, _)] rfl rfl rfl z_su rfl q_full z_fp z_ss rfl ?_; refine d_o [(128, _), (130, _), (134, _)] rfl rfl rfl z_su rfl q_mapUpdate z_fp z_ss rfl ?_; exact d_end z_mt z_sn)) z_su ?_; clear z_ex)
          ((repeat refine WpM.seq ?_); have z_ex := (And.intro @hc (And.intro @k1 (And.intro @updD_same True.intro))); refine WpM.drwPE [] [(143, _)] mixed (by kernel_rfl) (by kernel_rfl) [] (by kernel_rfl) (by (refine d_o [(0, _)] rfl rfl rfl z_su rfl q_move z_fp z_ss rfl ?_; refine d_o [(135, _)] rfl rfl rfl z_su rfl q_move z_fp z_ss rfl ?_; refine d_o [(136, _)] rfl rfl rfl z_su rfl q_fieldAddr z_fp z_ss rfl ?_; refine d_o [(137, _)] rfl rfl rfl z_su rfl q_load z_fp z_ss rfl ?_; refine d_o [(4, _)] rfl rfl rfl z_su rfl q_fieldAddr z_fp z_ss rfl ?_; refine d_o [(139, _)] rfl rfl rfl z_su rfl q_load z_fp z_ss rfl ?_; refine d_o [(138, _), (140, _)] rfl rfl rfl z_su rfl q_lookup z_fp z_ss rfl ?_; refine d_o [(141, _)] rfl rfl rfl z_su rfl q_full z_fp z_ss rfl ?_; refine d_o [(142, _)] rfl rfl rfl z_su rfl q_full z_fp z_ss rfl ?_; exact d_end z_mt z_sn)) z_su ?_; clear z_ex)
          ((repeat refine WpM.seq ?_); refine WpM.condF (by (simp (maxSteps := 2000000) (disch := omega) [go_sem, -List.map_map])) ?_)
          refine WpM.skip ?_
          ((repeat refine WpM.seq ?_); have z_ex := True.intro; refine WpM.regPE [] [(6, _)] (by (refine s_o [] rfl rfl rfl z_su rfl q_move z_fp z_ss ?_; exact wpS_nil ⟨rfl, rfl⟩)) z_su ?_; clear z_ex)
          refine WpM.ret ?_
          refine ⟨.inr rfl, Upd.done ⟨_, (by (simp (maxSteps := 2000000) (disch := omega) [go_sem, -List.map_map, resV, resVs, resV1])), (by show n0 ≤ nx + _; omega), fun m k ho hk => ?_, rfl, _, fun m hm => ?_, LedN.inc (nr := nx + 41) hN hw1 hf1 (fun h => by have := (hO1 _ h).2; omega) (by rw [← hl]; (simp (maxSteps := 2000000) (disch := omega) [go_sem, -List.map_map])) (by rw [← hl]; (simp (maxSteps := 2000000) (disch := omega) [go_sem, -List.map_map])) fun m k h1 h2 ho hk => ?_⟩⟩
          · obtain ⟨h1, h2, h3⟩ := oldO m k ho hk
            have on := fun m (h : O1 m) => (hO1 m h).1
            have h4 : m ≠ ni := fun e => by
              rcases on _ hN.oi with h | h
              · exact ho (e ▸ h)
              · have := hH _ _ hk; omega
            (simp (maxSteps := 2000000) (disch := omega) [go_sem, -List.map_map, h2])
          · rcases hm with hm | rfl
            · have := hO1 m hm; exact ⟨this.1.imp id (fun h => by omega), by show m < nx + _; omega⟩
            · exact ⟨.inr (by omega), by show _ < nx + _; omega⟩
          · have h3 := (hO1 _ ho).2
            have h4 : m ≠ n0 := fun e => on0 (e ▸ ho)
            (simp (maxSteps := 2000000) (disch := omega) [go_sem, -List.map_map, hk])
        | some x =>
          obtain ⟨l0, rfl⟩ : ∃ l0, l = l0 ++ [x] := by
            have hne : l ≠ [] := by rintro rfl; cases hcl
            refine ⟨l.dropLast, ?_⟩
            rw [List.getLast?_eq_some_getLast hne] at hcl
            injection hcl with hcl
            rw [← hcl, List.dropLast_concat_getLast hne]
          have hne : l0 ++ [x] ≠ [] := by simp
          obtain ⟨k8, k9, _, r1, r2⟩ := hi1 hne
          obtain ⟨r3, r4, r5, r6⟩ := hr1 hne
          have gr : r c.key < nx := (hO1 _ (hi1 hne).2.2.1).2
          have hr0 : n0 ≠ r c.key := fun e => on0 (e ▸ (hi1 hne).2.2.1)
          obtain ⟨len, hlen⟩ : ∃ len, len = l0.length := ⟨_, rfl⟩
          have hlx : (l0 ++ [x]).length = len + 1 := by simp [hlen]
          have hget : ((l0 ++ [x]).map fun t => V.d (.int .i64 t))[len]? = some (.d (.int .i64 x)) := by simp [hlen]
          obtain ⟨xs, hxs⟩ : ∃ xs, xs = (l0 ++ [x]).map fun t => V.d (.int .i64 t) := ⟨_, rfl⟩
          have hxl : xs.length = len + 1 := by rw [hxs]; simp [hlen]
          have htk : xs.take (len + 1) = xs := List.take_of_length_le (by omega)
          rw [← hxs] at hget k9
          rw [hlx] at k8 hil
          have hidx : (len : Int) + 1 - 1 = len := by omega
          have hz : ¬ ((len : Int) + 1 = 0) := by omega
          ((repeat refine WpM.seq ?_); have z_ex := (And.intro @hc (And.intro @k1 (And.intro @k7 (And.intro @k8 True.intro)))); refine WpM.drwPE [] [(0, _), (2, _), (4, _), (12, _)] mixed (by kernel_rfl) (by kernel_rfl) [] (by kernel_rfl) (by (refine d_o [(0, _)] rfl rfl rfl z_su rfl q_move z_fp z_ss rfl ?_; refine d_o [(105, _)] rfl rfl rfl z_su rfl q_move z_fp z_ss rfl ?_; refine d_o [(106, _)] rfl rfl rfl z_su rfl q_fieldAddr z_fp z_ss rfl ?_; refine d_o [(107, _)] rfl rfl rfl z_su rfl q_load z_fp z_ss rfl ?_; refine d_o [(4, _)] rfl rfl rfl z_su rfl q_fieldAddr z_fp z_ss rfl ?_; refine d_o [(109, _)] rfl rfl rfl z_su rfl q_load z_fp z_ss rfl ?_; refine d_o [(108, _), (110, _)] rfl rfl rfl z_su rfl q_lookup z_fp z_ss rfl ?_; refine d_o [(111, _)] rfl rfl rfl z_su rfl q_move z_fp z_ss rfl ?_; exact d_end z_mt z_sn)) z_su ?_; clear z_ex)
          by_cases hxw : x = who
          · have hinc : incNext (l0 ++ [x]) who = l0 ++ [x] := by rw [incNext, hcl, if_pos (by rw [hxw])]
            rw [hinc, hlx, if_neg (by omega), hl, set_self]
            ((repeat refine WpM.seq ?_); have z_ex := (And.intro @k9 (And.intro @hget (And.intro @hidx (And.intro @hxl (And.intro @wrap_id (And.intro @hxw (And.intro @hz True.intro))))))); refine WpM.regPE [] [(0, _), (2, _), (4, _), (12, _), (124, _)] (by (refine s_o [(12, _)] rfl rfl rfl z_su rfl q_move z_fp z_ss ?_; refine s_o [(112, _)] rfl rfl rfl z_su rfl q_full z_fp z_ss ?_; refine s_o [(113, _)] rfl rfl rfl z_su rfl q_full z_fp z_ss ?_; refine s_o [(114, _)] rfl rfl rfl z_su rfl q_move z_fp z_ss ?_; refine s_wit ?_; intro z_g; (first | refine s_skip rfl z_g z_fp ?_ | (refine s_o [(12, _)] rfl z_g rfl z_su rfl q_move z_fp z_ss ?_)); clear z_g; refine s_wit ?_; intro z_g; (first | refine s_skip rfl z_g z_fp ?_ | (refine s_o [(12, _)] rfl z_g rfl z_su rfl q_move z_fp z_ss ?_)); clear z_g; refine s_wit ?_; intro z_g; (first | refine s_skip rfl z_g z_fp ?_ | (refine s_o [(117, _)] rfl z_g rfl z_su rfl q_full z_fp z_ss ?_)); clear z_g; refine s_wit ?_; intro z_g; (first | refine s_skip rfl z_g z_fp ?_ | (refine s_o [(118, _)] rfl z_g rfl z_su rfl q_full z_fp z_ss ?_)); clear z_g; refine s_wit ?_; intro z_g; (first | refine s_skip rfl z_g z_fp ?_ | (refine s_o [(116, _), (119, _)] rfl z_g rfl z_su rfl q_full z_fp z_ss ?_)); clear z_g; refine s_wit ?_; intro z_g; (first | refine s_skip rfl z_g z_fp ?_ | (refine s_o [(120, _)] rfl z_g rfl z_su rfl q_load z_fp z_ss ?_)); clear z_g; refine s_wit ?_; intro z_g; (first | refine s_skip rfl z_g z_fp ?_ | (refine s_o [(2, _)] rfl z_g rfl z_su rfl q_move z_fp z_ss ?_)); clear z_g; refine s_wit ?_; intro z_g; (first | refine s_skip rfl z_g z_fp ?_ | (refine s_o [(121, _), (122, _)] rfl z_g rfl z_su rfl q_full z_fp z_ss ?_)); clear z_g; refine s_o [(115, _), (123, _)] rfl rfl rfl z_su rfl q_move z_fp z_ss ?_; exact wpS_nil ⟨rfl, rfl⟩)) z_su ?_; clear z_ex)
            ((repeat refine WpM.seq ?_); refine WpM.condF (by (simp (maxSteps := 2000000) (disch := omega) [go_sem, -List.map_map, hxw])) ?_)
            refine WpM.skip ?_
            ((repeat refine WpM.seq ?_); have z_ex := (And.intro @hc (And.intro @k1 (And.intro @k7 (And.intro @k8 True.intro)))); refine WpM.drwPE [] [(143, _)] mixed (by kernel_rfl) (by kernel_rfl) [] (by kernel_rfl) (by (refine d_o [(0, _)] rfl rfl rfl z_su rfl q_move z_fp z_ss rfl ?_; refine d_o [(135, _)] rfl rfl rfl z_su rfl q_move z_fp z_ss rfl ?_; refine d_o [(136, _)] rfl rfl rfl z_su rfl q_fieldAddr z_fp z_ss rfl ?_; refine d_o [(137, _)] rfl rfl rfl z_su rfl q_load z_fp z_ss rfl ?_; refine d_o [(4, _)] rfl rfl rfl z_su rfl q_fieldAddr z_fp z_ss rfl ?_; refine d_o [(139, _)] rfl rfl rfl z_su rfl q_load z_fp z_ss rfl ?_; refine d_o [(138, _), (140, _)] rfl rfl rfl z_su rfl q_lookup z_fp z_ss rfl ?_; refine d_o [(141, _)] rfl rfl rfl z_su rfl q_full z_fp z_ss rfl ?_; refine d_o [(142, _)] rfl rfl rfl z_su rfl q_full z_fp z_ss rfl ?_; exact d_end z_mt z_sn)) z_su ?_; clear z_ex)
            have hil' : (len : Int) + 1 ≤ 8 := by omega
            ((repeat refine WpM.seq ?_); refine WpM.condF (by (simp (maxSteps := 2000000) (disch := omega) [go_sem, -List.map_map, hil'])) ?_)
            refine WpM.skip ?_
            ((repeat refine WpM.seq ?_); have z_ex := True.intro; refine WpM.regPE [] [(6, _)] (by (refine s_o [] rfl rfl rfl z_su rfl q_move z_fp z_ss ?_; exact wpS_nil ⟨rfl, rfl⟩)) z_su ?_; clear z_ex)
            refine WpM.ret ?_
            refine ⟨.inr rfl, Upd.done ⟨_, (by (simp (maxSteps := 2000000) (disch := omega) [go_sem, -List.map_map, resV, resVs, resV1])), (by show n0 ≤ nx + _; omega), fun m k ho hk => ?_, rfl, O1, fun m hm => ⟨(hO1 m hm).1.imp id (fun h => by omega), ?_⟩, LedAt.same (G := G) ⟨nk, na, nt, nf, ni, am, fm, im, r, hN⟩ fun m k ho hk => ?_⟩⟩
            · obtain ⟨h1, h2, h3⟩ := oldO m k ho hk
              (simp (maxSteps := 2000000) (disch := omega) [go_sem, -List.map_map, h2])
            · have := (hO1 m hm).2; show m < nx + _; omega
            · have h2 := (hO1 _ ho).2
              (simp (maxSteps := 2000000) (disch := omega) [go_sem, -List.map_map, hk])
          · have hinc : incNext (l0 ++ [x]) who = b1.incs.getD k [] ++ [who] := by rw [incNext, hcl, if_neg (by simpa using hxw), ← hl]
            have hill : (b1.incs.getD k [] ++ [who]).length = len + 2 := by rw [← hl]; simp [hlen]
            rw [hinc, hill]
            ((repeat refine WpM.seq ?_); have z_ex := (And.intro @k9 (And.intro @hget (And.intro @hidx (And.intro @hxl (And.intro @wrap_id (And.intro @hxw (And.intro @hz True.intro))))))); refine WpM.regPE [] [(0, _), (2, _), (4, _), (12, _), (124, _)] (by (refine s_o [(12, _)] rfl rfl rfl z_su rfl q_move z_fp z_ss ?_; refine s_o [(112, _)] rfl rfl rfl z_su rfl q_full z_fp z_ss ?_; refine s_o [(113, _)] rfl rfl rfl z_su rfl q_full z_fp z_ss ?_; refine s_o [(114, _)] rfl rfl rfl z_su rfl q_move z_fp z_ss ?_; refine s_wit ?_; intro z_g; (first | refine s_skip rfl z_g z_fp ?_ | (refine s_o [(12, _)] rfl z_g rfl z_su rfl q_move z_fp z_ss ?_)); clear z_g; refine s_wit ?_; intro z_g; (first | refine s_skip rfl z_g z_fp ?_ | (refine s_o [(12, _)] rfl z_g rfl z_su rfl q_move z_fp z_ss ?_)); clear z_g; refine s_wit ?_; intro z_g; (first | refine s_skip rfl z_g z_fp ?_ | (refine s_o [(117, _)] rfl z_g rfl z_su rfl q_full z_fp z_ss ?_)); clear z_g; refine s_wit ?_; intro z_g; (first | refine s_skip rfl z_g z_fp ?_ | (refine s_o [(118, _)] rfl z_g rfl z_su rfl q_full z_fp z_ss ?_)); clear z_g; refine s_wit ?_; intro z_g; (first | refine s_skip rfl z_g z_fp ?_ | (refine s_o [(116, _), (119, _)] rfl z_g rfl z_su rfl q_full z_fp z_ss ?_)); clear z_g; refine s_wit ?_; intro z_g; (first | refine s_skip rfl z_g z_fp ?_ | (refine s_o [(120, _)] rfl z_g rfl z_su rfl q_load z_fp z_ss ?_)); clear z_g; refine s_wit ?_; intro z_g; (first | refine s_skip rfl z_g z_fp ?_ | (refine s_o [(2, _)] rfl z_g rfl z_su rfl q_move z_fp z_ss ?_)); clear z_g; refine s_wit ?_; intro z_g; (first | refine s_skip rfl z_g z_fp ?_ | (refine s_o [(121, _), (122, _)] rfl z_g rfl z_su rfl q_full z_fp z_ss ?_)); clear z_g; refine s_o [(115, _), (123, _)] rfl rfl rfl z_su rfl q_move z_fp z_ss ?_; exact wpS_nil ⟨rfl, rfl⟩)) z_su ?_; clear z_ex)
            ((repeat refine WpM.seq ?_); refine WpM.condT (by (simp (maxSteps := 2000000) (disch := omega) [go_sem, -List.map_map, hxw])) ?_)
            ((repeat refine WpM.seq ?_); have z_ex := (And.intro @hc (And.intro @k1 (And.intro @k7 (And.intro @k9 (And.intro @hxl (And.intro @htk True.intro)))))); refine WpM.drwPE [] [(0, _), (4, _)] mixed (by kernel_rfl) (by kernel_rfl) [(3, 8), (5, 8), (3, 9), (5, 9)] (by kernel_rfl) (by (refine d_o [(0, _)] rfl rfl rfl z_su rfl q_move z_fp z_ss rfl ?_; refine d_o [(125, _)] rfl rfl rfl z_su rfl q_move z_fp z_ss rfl ?_; refine d_o [(126, _)] rfl rfl rfl z_su rfl q_fieldAddr z_fp z_ss rfl ?_; refine d_o [(127, _)] rfl rfl rfl z_su rfl q_load z_fp z_ss rfl ?_; refine d_o [(4, _)] rfl rfl rfl z_su rfl q_fieldAddr z_fp z_ss rfl ?_; refine d_o [(129, _)] rfl rfl rfl z_su rfl q_load z_fp z_ss rfl ?_; refine d_o [(12, _)] rfl rfl rfl z_su rfl q_move z_fp z_ss rfl ?_; refine d_o [(2, _)] rfl rfl rfl z_su rfl q_move z_fp z_ss rfl ?_; refine d_o [(132, _)] rfl rfl rfl z_su rfl q_full z_fp z_ss rfl ?_; refine d_o [(131, _), (133, _)] rfl rfl rfl z_su rfl q_full z_fp z_ss rfl ?_; refine d_o [(128, _), (130, _), (134, _)] rfl rfl rfl z_su rfl q_mapUpdate z_fp z_ss rfl ?_; exact d_end z_mt z_sn)) z_su ?_; clear z_ex)
            ((repeat refine WpM.seq ?_); have z_ex := (And.intro @hc (And.intro @k1 (And.intro @updD_same True.intro))); refine WpM.drwPE [] [(143, _)] mixed (by kernel_rfl) (by kernel_rfl) [] (by kernel_rfl) (by (refine d_o [(0, _)] rfl rfl rfl z_su rfl q_move z_fp z_ss rfl ?_; refine d_o [(135, _)] rfl rfl rfl z_su rfl q_move z_fp z_ss rfl ?_; refine d_o [(136, _)] rfl rfl rfl z_su rfl q_fieldAddr z_fp z_ss rfl ?_; refine d_o [(137, _)] rfl rfl rfl z_su rfl q_load z_fp z_ss rfl ?_; refine d_o [(4, _)] rfl rfl rfl z_su rfl q_fieldAddr z_fp z_ss rfl ?_; refine d_o [(139, _)] rfl rfl rfl z_su rfl q_load z_fp z_ss rfl ?_; refine d_o [(138, _), (140, _)] rfl rfl rfl z_su rfl q_lookup z_fp z_ss rfl ?_; refine d_o [(141, _)] rfl rfl rfl z_su rfl q_full z_fp z_ss rfl ?_; refine d_o [(142, _)] rfl rfl rfl z_su rfl q_full z_fp z_ss rfl ?_; exact d_end z_mt z_sn)) z_su ?_; clear z_ex)
            by_cases h8 : 8 < len + 2
            · rw [if_pos h8]
              have h8' : (8 : Int) < len + 2 := by omega
              ((repeat refine WpM.seq ?_); refine WpM.condT (by (simp (maxSteps := 2000000) (disch := omega) [go_sem, -List.map_map, h8'])) ?_)
              ((repeat refine WpM.seq ?_); have z_ex := True.intro; refine WpM.regPE [] [(6, _)] (by (refine s_o [] rfl rfl rfl z_su rfl q_move z_fp z_ss ?_; exact wpS_nil ⟨rfl, rfl⟩)) z_su ?_; clear z_ex)
              refine WpM.ret ?_
              refine ⟨.inr rfl, Upd.done ⟨_, (by (simp (maxSteps := 2000000) (disch := omega) [go_sem, -List.map_map, resV, resVs, resV1])), (by show n0 ≤ nx + _; omega), fun m k ho hk => ?_, rfl, by decide⟩⟩
              obtain ⟨h1, h2, h3⟩ := oldO m k ho hk
              have on := fun m (h : O1 m) => (hO1 m h).1
              have h5 : m ≠ r c.key := fun e => by
                rcases on _ (hi1 hne).2.2.1 with h | h
                · exact ho (e ▸ h)
                · have := hH _ _ hk; omega
              have h4 : m ≠ ni := fun e => by
                rcases on _ hN.oi with h | h
                · exact ho (e ▸ h)
                · have := hH _ _ hk; omega
              (simp (maxSteps := 2000000) (disch := omega) [go_sem, -List.map_map, h2])
            · rw [if_neg h8]
              have h8' : (len : Int) + 2 ≤ 8 := by omega
              ((repeat refine WpM.seq ?_); refine WpM.condF (by (simp (maxSteps := 2000000) (disch := omega) [go_sem, -List.map_map, h8'])) ?_)
              refine WpM.skip ?_
              ((repeat refine WpM.seq ?_); have z_ex := True.intro; refine WpM.regPE [] [(6, _)] (by (refine s_o [] rfl rfl rfl z_su rfl q_move z_fp z_ss ?_; exact wpS_nil ⟨rfl, rfl⟩)) z_su ?_; clear z_ex)
              refine WpM.ret ?_
              refine ⟨.inr rfl, Upd.done ⟨_, (by (simp (maxSteps := 2000000) (disch := omega) [go_sem, -List.map_map, resV, resVs, resV1])), (by show n0 ≤ nx + _; omega), fun m k ho hk => ?_, rfl, _, fun m hm => ?_, LedN.inc (nr := nx + 49) hN hw1 hf1 (fun h => by have := (hO1 _ h).2; omega) (by rw [← hl]; (simp (maxSteps := 2000000) (disch := omega) [go_sem, -List.map_map, hlen])) (by rw [← hl]; (simp (maxSteps := 2000000) (disch := omega) [go_sem, -List.map_map, hxs])) fun m k h1 h2 ho hk => ?_⟩⟩
              · obtain ⟨h1, h2, h3⟩ := oldO m k ho hk
                have on := fun m (h : O1 m) => (hO1 m h).1
                have h5 : m ≠ r c.key := fun e => by
                  rcases on _ (hi1 hne).2.2.1 with h | h
                  · exact ho (e ▸ h)
                  · have := hH _ _ hk; omega
                have h4 : m ≠ ni := fun e => by
                  rcases on _ hN.oi with h | h
                  · exact ho (e ▸ h)
                  · have := hH _ _ hk; omega
                (simp (maxSteps := 2000000) (disch := omega) [go_sem, -List.map_map, h2])
              · rcases hm with hm | rfl
                · have := hO1 m hm; exact ⟨this.1.imp id (fun h => by omega), by show m < nx + _; omega⟩
                · exact ⟨.inr (by omega), by show _ < nx + _; omega⟩
              · have h3 := (hO1 _ ho).2
                have h5 : m ≠ r c.key := h2 (by rw [hie, ← hl]; exact hne)
                have h4 : m ≠ n0 := fun e => on0 (e ▸ ho)
                (simp (maxSteps := 2000000) (disch := omega) [go_sem, -List.map_map, hk])
      · rw [if_neg h4]
        ((repeat refine WpM.seq ?_); have z_ex := (And.intro @h4 True.intro); refine WpM.regPE [] [(0, _), (2, _), (4, _), (103, _)] (by (refine s_o [(78, _)] rfl rfl rfl z_su rfl q_full z_fp z_ss ?_; refine s_o [(104, _)] rfl rfl rfl z_su rfl q_move z_fp z_ss ?_; exact wpS_nil ⟨rfl, rfl⟩)) z_su ?_; clear z_ex)
        ((repeat refine WpM.seq ?_); refine WpM.condF (by (simp (maxSteps := 2000000) (disch := omega) [go_sem, -List.map_map, h4])) ?_)
        refine WpM.skip ?_
        ((repeat refine WpM.seq ?_); have z_ex := True.intro; refine WpM.regPE [] [(6, _)] (by (refine s_o [] rfl rfl rfl z_su rfl q_move z_fp z_ss ?_; exact wpS_nil ⟨rfl, rfl⟩)) z_su ?_; clear z_ex)
        refine WpM.ret ?_
        refine ⟨.inr rfl, Upd.done ⟨_, (by (simp (maxSteps := 2000000) (disch := omega) [go_sem, -List.map_map, resV, resVs, resV1])), (by show n0 ≤ nx + _; omega), fun m k ho hk => ?_, rfl, O1, fun m hm => ⟨(hO1 m hm).1.imp id (fun h => by omega), ?_⟩, LedAt.same (G := G) ⟨nk, na, nt, nf, ni, am, fm, im, r, hN⟩ fun m k ho hk => ?_⟩⟩
        · obtain ⟨h1, h2, h3⟩ := oldO m k ho hk
          (simp (maxSteps := 2000000) (disch := omega) [go_sem, -List.map_map, h2])
        · have := (hO1 m hm).2; show m < nx + _; omega
        · have h2 := (hO1 _ ho).2
          (simp (maxSteps := 2000000) (disch := omega) [go_sem, -List.map_map, hk])
  · ((repeat refine WpM.seq ?_); refine WpM.condT (by (simp (maxSteps := 2000000) (disch := omega) [go_sem, -List.map_map, hty])) ?_)
    have hput : putB b1 k c who = .error 50 := by rw [putB, ← hty0, if_pos hty]
    rw [hput]
    ((repeat refine WpM.seq ?_); have z_ex := True.intro; refine WpM.regPE [] [(6, _)] (by (refine s_o [] rfl rfl rfl z_su rfl q_move z_fp z_ss ?_; exact wpS_nil ⟨rfl, rfl⟩)) z_su ?_; clear z_ex)
    refine WpM.ret ?_
    refine ⟨.inr rfl, Upd.done ⟨_, (by (simp (maxSteps := 2000000) (disch := omega) [go_sem, -List.map_map, resV, resVs, resV1])), (by show n0 ≤ nx + _; omega), fun m k ho hk => ?_, rfl, by decide⟩⟩
    obtain ⟨h1, h2, h3⟩ := oldO m k ho hk
    (simp (maxSteps := 2000000) (disch := omega) [go_sem, -List.map_map, h2])
end Go.Proofs.Ytjjmedgibcffhaa
/- index.newLedger, index.calls, both placed, names. -/
namespace Go.Proofs.Ytjjmedgibcffhaa
open Go.RowKit M
set_option linter.unusedSimpArgs false
set_option linter.unusedVariables false
theorem new47 (S : St) : CallM Try.prog 47 [] S fun r S' => ∃ L O, r = .ptr L 0 ∧ LedAt S'.get L Bk.empty O ∧ (∀ m, O m → S.next ≤ m ∧ m < S'.next) ∧ S.next ≤ S'.next ∧ ∀ m k, S.get m = some k → S'.get m = some k := by
  refine CallM.start (n := 6) Try.func47 rfl rfl (by simp) (by simp only [argL, Nat.reduceAdd] <;> rfl) ?_
  intro hH
  obtain ⟨H, hHe⟩ : ∃ H, H = S.get := ⟨_, rfl⟩
  obtain ⟨n0, hne⟩ : ∃ n0, n0 = S.next := ⟨_, rfl⟩
  rw [← hHe, ← hne] at hH ⊢
  ((repeat refine WpM.seq ?_); have z_ex := True.intro; refine WpM.regPE [] [] (by (refine s_o [] rfl rfl rfl z_su rfl q_move z_fp z_ss ?_; exact wpS_nil ⟨rfl, rfl⟩)) z_su ?_; clear z_ex)
  ((repeat refine WpM.seq ?_); have z_ex := True.intro; refine WpM.regPE [] [(0, _)] (by (refine s_o [] rfl rfl rfl z_su rfl q_makeMap z_fp z_ss ?_; refine s_o [] rfl rfl rfl z_su rfl q_makeMap z_fp z_ss ?_; refine s_o [] rfl rfl rfl z_su rfl q_makeMap z_fp z_ss ?_; refine s_o [(1, _), (2, _), (3, _)] rfl rfl rfl z_su rfl q_build z_fp z_ss ?_; refine s_o [(4, _)] rfl rfl rfl z_su rfl q_box z_fp z_ss ?_; refine s_o [(5, _)] rfl rfl rfl z_su rfl q_move z_fp z_ss ?_; exact wpS_nil ⟨rfl, rfl⟩)) z_su ?_; clear z_ex)
  refine WpM.ret ?_
  refine ⟨.inr rfl, Upd.ghostIn (n0 + 5) 0 1 (cs := [.nil, .map (n0 + 1), .nil, .map (n0 + 2), .map (n0 + 3)]) (by (simp (maxSteps := 2000000) (disch := omega) [go_sem, -List.map_map])) (.inl rfl) (Upd.ghostIn (n0 + 5) 2 1 (cs := [.ms (n0 + 7) 1 0 0, .map (n0 + 1), .nil, .map (n0 + 2), .map (n0 + 3)]) (by (simp (maxSteps := 2000000) (disch := omega) [go_sem, -List.map_map])) (.inl rfl) (Upd.done ?_))⟩
  refine ⟨_, (by (simp (maxSteps := 2000000) (disch := omega) [go_sem, -List.map_map, resV, resVs, resV1])), n0 + 5, fun m => n0 ≤ m ∧ m < n0 + 9, rfl, ⟨n0 + 7, n0 + 1, n0 + 8, n0 + 2, n0 + 3, fun _ => none, fun _ => none, fun _ => none, fun _ => 0, ?_⟩, fun m hm => ⟨hm.1, ?_⟩, ?_, fun m k hk => ?_⟩
  · refine ⟨by (simp (maxSteps := 2000000) (disch := omega) [go_sem, -List.map_map, Bk.empty]), by (simp (maxSteps := 2000000) (disch := omega) [go_sem, -List.map_map, Bk.empty]), by (simp (maxSteps := 2000000) (disch := omega) [go_sem, -List.map_map, Bk.empty]), by (simp (maxSteps := 2000000) (disch := omega) [go_sem, -List.map_map]), by (simp (maxSteps := 2000000) (disch := omega) [go_sem, -List.map_map]), by (simp (maxSteps := 2000000) (disch := omega) [go_sem, -List.map_map]), fun s => rfl, fun s i => rfl, fun s _ => rfl, fun s hs => absurd rfl hs, fun s s' hs => absurd rfl hs, ?_, ?_, ?_, ?_, ?_, ?_, ?_, ?_⟩ <;> omega
  · have := hm.2; show m < n0 + 9; exact this
  · show n0 ≤ n0 + 9; omega
  · have := hH _ _ hk
    (simp (maxSteps := 2000000) (disch := omega) [go_sem, -List.map_map, hk])
end Go.Proofs.Ytjjmedgibcffhaa
/- index.Check. -/
namespace Go.Proofs.Ytjjmedgibcffhaa
open Go.RowKit M
set_option linter.unusedSimpArgs false
set_option linter.unusedVariables false
def histBox (h : HistD) : Blk := .box [.d (strs h.keys), .d (.sl (h.txns.map encTxn))]
theorem errno_f : errnoOf false = 1 := rfl
theorem errno_t : errnoOf true = 0 := rfl
theorem size_zero {s : ByteArray} : s = ⟨#[]⟩ ↔ s.size = 0 := by
  constructor
  · rintro rfl; rfl
  · intro h
    obtain ⟨d⟩ := s
    have : d.size = 0 := h
    simpa using this
set_option maxHeartbeats 8000000 in
theorem check32 (h : HistD) (hh : HistOk h) : PureC Try.prog 32 [.d (encHist h)] (.d (.int .i64 (errnoOf (checkB h)))) := by
  intro S
  refine CallM.pure' (by rfl) (CallM.start (n := 86) Try.func32 rfl rfl (by simp) (by simp only [argL, Nat.reduceAdd] <;> rfl) ?_)
  intro hH
  obtain ⟨H, hHe⟩ : ∃ H, H = S.get := ⟨_, rfl⟩
  obtain ⟨n0, hne⟩ : ∃ n0, n0 = S.next := ⟨_, rfl⟩
  rw [← hHe, ← hne] at hH ⊢
  have hb := hh.b
  have hb1 := hb.keys
  have hb2 := hb.len
  ((repeat refine WpM.seq ?_); have z_ex := (And.intro @encHist.eq_1 True.intro); refine WpM.regPE [] [(1, _)] (by (refine s_o [(0, _)] rfl rfl rfl z_su rfl q_box z_fp z_ss ?_; refine s_o [] rfl rfl rfl z_su rfl q_move z_fp z_ss ?_; exact wpS_nil ⟨rfl, rfl⟩)) z_su ?_; clear z_ex)
  by_cases hk32 : 32 < h.keys.length
  · have hr : checkB h = false := by simp [checkB, namesB, Nat.not_le.2 hk32]
    rw [hr, errno_f]
    have hk32' : (32 : Int) < h.keys.length := by omega
    ((repeat refine WpM.seq ?_); have z_ex := (And.intro @hk32' True.intro); refine WpM.regPE [] [(1, _), (21, _)] (by (refine s_o [(1, _)] rfl rfl rfl z_su rfl q_fieldAddr z_fp z_ss ?_; refine s_o [(12, _)] rfl rfl rfl z_su rfl q_load z_fp z_ss ?_; refine s_o [(13, _)] rfl rfl rfl z_su rfl q_full z_fp z_ss ?_; refine s_o [(14, _)] rfl rfl rfl z_su rfl q_full z_fp z_ss ?_; refine s_o [(15, _)] rfl rfl rfl z_su rfl q_move z_fp z_ss ?_; refine s_wit ?_; intro z_g; (first | refine s_skip rfl z_g z_fp ?_ | (refine s_o [(1, _)] rfl z_g rfl z_su rfl q_fieldAddr z_fp z_ss ?_)); clear z_g; refine s_wit ?_; intro z_g; (first | refine s_skip rfl z_g z_fp ?_ | (refine s_o [(17, _)] rfl z_g rfl z_su rfl q_load z_fp z_ss ?_)); clear z_g; refine s_wit ?_; intro z_g; (first | refine s_skip rfl z_g z_fp ?_ | (refine s_o [(18, _)] rfl z_g rfl z_su rfl q_full z_fp z_ss ?_)); clear z_g; refine s_wit ?_; intro z_g; (first | refine s_skip rfl z_g z_fp ?_ | (refine s_o [(19, _)] rfl z_g rfl z_su rfl q_full z_fp z_ss ?_)); clear z_g; refine s_o [(16, _), (20, _)] rfl rfl rfl z_su rfl q_move z_fp z_ss ?_; exact wpS_nil ⟨rfl, rfl⟩)) z_su ?_; clear z_ex)
    ((repeat refine WpM.seq ?_); refine WpM.condT (by (simp (maxSteps := 2000000) (disch := omega) [go_sem, -List.map_map, hk32'])) ?_)
    ((repeat refine WpM.seq ?_); have z_ex := True.intro; refine WpM.regPE [] [(2, _)] (by (refine s_o [] rfl rfl rfl z_su rfl q_move z_fp z_ss ?_; exact wpS_nil ⟨rfl, rfl⟩)) z_su ?_; clear z_ex)
    refine WpM.ret ?_
    exact ⟨.inr rfl, Upd.done ⟨_, (by (simp (maxSteps := 2000000) (disch := omega) [go_sem, -List.map_map, resV, resVs, resV1])), rfl, fun m k _ hk => by have := hH _ _ hk; (simp (maxSteps := 2000000) (disch := omega) [go_sem, -List.map_map, hk])⟩⟩
  have hk32' : ¬ (32 : Int) < h.keys.length := by omega
  have hk32'' : (h.keys.length : Int) ≤ 32 := by omega
  by_cases ht32 : 32 < h.txns.length
  · have hr : checkB h = false := by simp [checkB, Nat.not_le.2 ht32]
    rw [hr, errno_f]
    have ht32' : (32 : Int) < h.txns.length := by omega
    ((repeat refine WpM.seq ?_); have z_ex := (And.intro @hk32' (And.intro @hk32'' (And.intro @ht32' True.intro))); refine WpM.regPE [] [(1, _), (21, _)] (by (refine s_o [(1, _)] rfl rfl rfl z_su rfl q_fieldAddr z_fp z_ss ?_; refine s_o [(12, _)] rfl rfl rfl z_su rfl q_load z_fp z_ss ?_; refine s_o [(13, _)] rfl rfl rfl z_su rfl q_full z_fp z_ss ?_; refine s_o [(14, _)] rfl rfl rfl z_su rfl q_full z_fp z_ss ?_; refine s_o [(15, _)] rfl rfl rfl z_su rfl q_move z_fp z_ss ?_; refine s_wit ?_; intro z_g; (first | refine s_skip rfl z_g z_fp ?_ | (refine s_o [(1, _)] rfl z_g rfl z_su rfl q_fieldAddr z_fp z_ss ?_)); clear z_g; refine s_wit ?_; intro z_g; (first | refine s_skip rfl z_g z_fp ?_ | (refine s_o [(17, _)] rfl z_g rfl z_su rfl q_load z_fp z_ss ?_)); clear z_g; refine s_wit ?_; intro z_g; (first | refine s_skip rfl z_g z_fp ?_ | (refine s_o [(18, _)] rfl z_g rfl z_su rfl q_full z_fp z_ss ?_)); clear z_g; refine s_wit ?_; intro z_g; (first | refine s_skip rfl z_g z_fp ?_ | (refine s_o [(19, _)] rfl z_g rfl z_su rfl q_full z_fp z_ss ?_)); clear z_g; refine s_o [(16, _), (20, _)] rfl rfl rfl z_su rfl q_move z_fp z_ss ?_; exact wpS_nil ⟨rfl, rfl⟩)) z_su ?_; clear z_ex)
    ((repeat refine WpM.seq ?_); refine WpM.condT (by (simp (maxSteps := 2000000) (disch := omega) [go_sem, -List.map_map, ht32'])) ?_)
    ((repeat refine WpM.seq ?_); have z_ex := True.intro; refine WpM.regPE [] [(2, _)] (by (refine s_o [] rfl rfl rfl z_su rfl q_move z_fp z_ss ?_; exact wpS_nil ⟨rfl, rfl⟩)) z_su ?_; clear z_ex)
    refine WpM.ret ?_
    exact ⟨.inr rfl, Upd.done ⟨_, (by (simp (maxSteps := 2000000) (disch := omega) [go_sem, -List.map_map, resV, resVs, resV1])), rfl, fun m k _ hk => by have := hH _ _ hk; (simp (maxSteps := 2000000) (disch := omega) [go_sem, -List.map_map, hk])⟩⟩
  have ht32' : ¬ (32 : Int) < h.txns.length := by omega
  have ht32'' : (h.txns.length : Int) ≤ 32 := by omega
  ((repeat refine WpM.seq ?_); have z_ex := (And.intro @hk32' (And.intro @hk32'' (And.intro @ht32' (And.intro @ht32'' True.intro)))); refine WpM.regPE [] [(1, _), (21, _)] (by (refine s_o [(1, _)] rfl rfl rfl z_su rfl q_fieldAddr z_fp z_ss ?_; refine s_o [(12, _)] rfl rfl rfl z_su rfl q_load z_fp z_ss ?_; refine s_o [(13, _)] rfl rfl rfl z_su rfl q_full z_fp z_ss ?_; refine s_o [(14, _)] rfl rfl rfl z_su rfl q_full z_fp z_ss ?_; refine s_o [(15, _)] rfl rfl rfl z_su rfl q_move z_fp z_ss ?_; refine s_wit ?_; intro z_g; (first | refine s_skip rfl z_g z_fp ?_ | (refine s_o [(1, _)] rfl z_g rfl z_su rfl q_fieldAddr z_fp z_ss ?_)); clear z_g; refine s_wit ?_; intro z_g; (first | refine s_skip rfl z_g z_fp ?_ | (refine s_o [(17, _)] rfl z_g rfl z_su rfl q_load z_fp z_ss ?_)); clear z_g; refine s_wit ?_; intro z_g; (first | refine s_skip rfl z_g z_fp ?_ | (refine s_o [(18, _)] rfl z_g rfl z_su rfl q_full z_fp z_ss ?_)); clear z_g; refine s_wit ?_; intro z_g; (first | refine s_skip rfl z_g z_fp ?_ | (refine s_o [(19, _)] rfl z_g rfl z_su rfl q_full z_fp z_ss ?_)); clear z_g; refine s_o [(16, _), (20, _)] rfl rfl rfl z_su rfl q_move z_fp z_ss ?_; exact wpS_nil ⟨rfl, rfl⟩)) z_su ?_; clear z_ex)
  ((repeat refine WpM.seq ?_); refine WpM.condF (by (simp (maxSteps := 2000000) (disch := omega) [go_sem, -List.map_map, ht32', ht32''])) ?_)
  refine WpM.skip ?_
  ((repeat refine WpM.seq ?_); have z_ex := True.intro; refine WpM.regPE [] [(1, _), (23, _), (24, _), (25, _)] (by (refine s_o [(1, _)] rfl rfl rfl z_su rfl q_fieldAddr z_fp z_ss ?_; refine s_o [(22, _)] rfl rfl rfl z_su rfl q_load z_fp z_ss ?_; refine s_o [(23, _)] rfl rfl rfl z_su rfl q_full z_fp z_ss ?_; refine s_o [] rfl rfl rfl z_su rfl q_move z_fp z_ss ?_; exact wpS_nil ⟨rfl, rfl⟩)) z_su ?_; clear z_ex)
  ((repeat refine WpM.seq ?_); refine WpM.block ?_)
  refine WpM.loop (fun (j : Nat) fr S => j ≤ h.keys.length ∧ (∀ i, i < j → nameB h.keys i = true) ∧ fr = frOf [(1, .ptr n0 0), (23, .d (strs h.keys)), (24, .d (.int .i64 h.keys.length)), (25, .d (.int .i64 j))] ∧ ∃ nx, n0 < nx ∧ S = ⟨nx, [(n0, some (histBox h))], H⟩) (fun j => h.keys.length - j) 0 (le_cut (n0 := n0) (l' := [(n0, some (histBox h))]) hH (by (simp (maxSteps := 2000000) (disch := omega) [go_sem, -List.map_map])) (Nat.le_refl _) (by (simp (maxSteps := 2000000) (disch := omega) [go_sem, -List.map_map, histBox, strs]))) (frLe_frOf (by (simp (maxSteps := 2000000) (disch := omega) [go_sem, -List.map_map, strs]))) ⟨by omega, by simp, rfl, n0 + 16, ?_, rfl⟩ ?_
  · omega
  rintro j fr S' ⟨hj, hall, rfl, nx, hnx, rfl⟩
  ((repeat refine WpM.seq ?_); have z_ex := True.intro; refine WpM.regPE [] [(1, _), (23, _), (24, _), (25, _), (26, _)] (by (refine s_o [(24, _), (25, _)] rfl rfl rfl z_su rfl q_full z_fp z_ss ?_; exact wpS_nil ⟨rfl, rfl⟩)) z_su ?_; clear z_ex)
  by_cases hlt : j < h.keys.length
  · ((repeat refine WpM.seq ?_); refine WpM.condT (by (simp (maxSteps := 2000000) (disch := omega) [go_sem, -List.map_map, hlt])) ?_)
    refine WpM.skip ?_
    ((repeat refine WpM.seq ?_); refine WpM.block ?_)
    have hnb := nameB_get hlt
    obtain ⟨s, hs⟩ : ∃ s, s = h.keys[j] := ⟨_, rfl⟩
    have hget : (h.keys.map D.str)[j]? = some (.str s) := by simp [hlt, hs]
    rw [← hs, findI_none] at hnb
    have hfind := contains52 (h.keys.take j) s (by simp; omega)
    obtain ⟨fi, hfi⟩ : ∃ fi, fi = findI (h.keys.take j) s := ⟨_, rfl⟩
    have hst : strs (h.keys.take j) = .sl ((h.keys.map D.str).take j) := by rw [strs, List.map_take]
    rw [hst] at hfind
    rw [← hfi] at hfind hnb
    have bad : nameB h.keys j = false → checkB h = false := fun hn => by rw [checkB, names_bad hlt hn]; rfl
    ((repeat refine WpM.seq ?_); have z_ex := (And.intro @strs.eq_1 (And.intro @hget (And.intro @hlt True.intro))); refine WpM.regPE [] [(1, _), (3, _), (4, _), (23, _), (24, _), (25, _)] (by (refine s_o [(25, _)] rfl rfl rfl z_su rfl q_move z_fp z_ss ?_; refine s_o [(23, _), (25, _)] rfl rfl rfl z_su rfl q_full z_fp z_ss ?_; refine s_o [(28, _)] rfl rfl rfl z_su rfl q_load z_fp z_ss ?_; refine s_o [(27, _)] rfl rfl rfl z_su rfl q_move z_fp z_ss ?_; refine s_o [(29, _)] rfl rfl rfl z_su rfl q_move z_fp z_ss ?_; exact wpS_nil ⟨rfl, rfl⟩)) z_su ?_; clear z_ex)
    by_cases h1 : s = ⟨#[]⟩
    · have h0 := size_zero.1 h1
      rw [bad (by rw [hnb]; simp; omega), errno_f]
      ((repeat refine WpM.seq ?_); have z_ex := (And.intro @h1 True.intro); refine WpM.regPE [] [(1, _), (23, _), (24, _), (25, _), (44, _)] (by (refine s_o [(4, _)] rfl rfl rfl z_su rfl q_move z_fp z_ss ?_; refine s_o [(30, _)] rfl rfl rfl z_su rfl q_full z_fp z_ss ?_; refine s_o [(31, _)] rfl rfl rfl z_su rfl q_move z_fp z_ss ?_; refine s_wit ?_; intro z_g; (first | refine s_skip rfl z_g z_fp ?_ | (refine s_o [(4, _)] rfl z_g rfl z_su rfl q_move z_fp z_ss ?_)); clear z_g; refine s_wit ?_; intro z_g; (first | refine s_skip rfl z_g z_fp ?_ | (refine s_o [(33, _)] rfl z_g rfl z_su rfl q_full z_fp z_ss ?_)); clear z_g; refine s_wit ?_; intro z_g; (first | refine s_skip rfl z_g z_fp ?_ | (refine s_o [(34, _)] rfl z_g rfl z_su rfl q_full z_fp z_ss ?_)); clear z_g; refine s_o [(32, _), (35, _)] rfl rfl rfl z_su rfl q_move z_fp z_ss ?_; refine s_o [(36, _)] rfl rfl rfl z_su rfl q_move z_fp z_ss ?_; refine s_wit ?_; intro z_g; (first | refine s_skip rfl z_g z_fp ?_ | (refine s_o [(1, _)] rfl z_g rfl z_su rfl q_fieldAddr z_fp z_ss ?_)); clear z_g; refine s_wit ?_; intro z_g; (first | refine s_skip rfl z_g z_fp ?_ | (refine s_o [(38, _)] rfl z_g rfl z_su rfl q_load z_fp z_ss ?_)); clear z_g; refine s_wit ?_; intro z_g; (first | refine s_skip rfl z_g z_fp ?_ | (refine s_o [(3, _)] rfl z_g rfl z_su rfl q_move z_fp z_ss ?_)); clear z_g; refine s_wit ?_; intro z_g; (first | refine s_skip rfl z_g z_fp ?_ | (refine s_o [(39, _), (40, _)] rfl z_g rfl z_su rfl q_full z_fp z_ss ?_)); clear z_g; refine s_wit ?_; intro z_g; (first | refine s_skip rfl z_g z_fp ?_ | (refine s_o [(4, _)] rfl z_g rfl z_su rfl q_move z_fp z_ss ?_)); clear z_g; refine s_wit ?_; intro z_g; (first | refine s_skip rfl z_g z_fp ?_ | (refine s_pure (callOf_eq rfl rfl rfl (mlk_tmp z_lk (mlk_tmp z_lk mlk_nil))) (?missing) rfl z_g z_ip z_fp ?_)); clear z_g; refine s_o [(37, _), (43, _)] rfl rfl rfl z_su rfl q_move z_fp z_ss ?_; exact wpS_nil ⟨rfl, rfl⟩)) z_su ?_; clear z_ex)
      ((repeat refine WpM.seq ?_); refine WpM.condT (by (simp (maxSteps := 2000000) (disch := omega) [go_sem, -List.map_map, h1])) ?_)
      ((repeat refine WpM.seq ?_); have z_ex := True.intro; refine WpM.regPE [] [(2, _)] (by (refine s_o [] rfl rfl rfl z_su rfl q_move z_fp z_ss ?_; exact wpS_nil ⟨rfl, rfl⟩)) z_su ?_; clear z_ex)
      refine WpM.ret ?_
      exact ⟨.inr rfl, Upd.done ⟨_, (by (simp (maxSteps := 2000000) (disch := omega) [go_sem, -List.map_map, resV, resVs, resV1])), rfl, fun m k _ hk => by have := hH _ _ hk; (simp (maxSteps := 2000000) (disch := omega) [go_sem, -List.map_map, hk])⟩⟩
    · have h0 : ¬ s.size = 0 := fun h0 => h1 (size_zero.2 h0)
      by_cases h2 : 32 < s.size
      · rw [bad (by rw [hnb]; simp; omega), errno_f]
        have h2' : (32 : Int) < s.size := by omega
        ((repeat refine WpM.seq ?_); have z_ex := (And.intro @h1 (And.intro @h2' True.intro)); refine WpM.regPE [] [(1, _), (23, _), (24, _), (25, _), (44, _)] (by (refine s_o [(4, _)] rfl rfl rfl z_su rfl q_move z_fp z_ss ?_; refine s_o [(30, _)] rfl rfl rfl z_su rfl q_full z_fp z_ss ?_; refine s_o [(31, _)] rfl rfl rfl z_su rfl q_move z_fp z_ss ?_; refine s_wit ?_; intro z_g; (first | refine s_skip rfl z_g z_fp ?_ | (refine s_o [(4, _)] rfl z_g rfl z_su rfl q_move z_fp z_ss ?_)); clear z_g; refine s_wit ?_; intro z_g; (first | refine s_skip rfl z_g z_fp ?_ | (refine s_o [(33, _)] rfl z_g rfl z_su rfl q_full z_fp z_ss ?_)); clear z_g; refine s_wit ?_; intro z_g; (first | refine s_skip rfl z_g z_fp ?_ | (refine s_o [(34, _)] rfl z_g rfl z_su rfl q_full z_fp z_ss ?_)); clear z_g; refine s_o [(32, _), (35, _)] rfl rfl rfl z_su rfl q_move z_fp z_ss ?_; refine s_o [(36, _)] rfl rfl rfl z_su rfl q_move z_fp z_ss ?_; refine s_wit ?_; intro z_g; (first | refine s_skip rfl z_g z_fp ?_ | (refine s_o [(1, _)] rfl z_g rfl z_su rfl q_fieldAddr z_fp z_ss ?_)); clear z_g; refine s_wit ?_; intro z_g; (first | refine s_skip rfl z_g z_fp ?_ | (refine s_o [(38, _)] rfl z_g rfl z_su rfl q_load z_fp z_ss ?_)); clear z_g; refine s_wit ?_; intro z_g; (first | refine s_skip rfl z_g z_fp ?_ | (refine s_o [(3, _)] rfl z_g rfl z_su rfl q_move z_fp z_ss ?_)); clear z_g; refine s_wit ?_; intro z_g; (first | refine s_skip rfl z_g z_fp ?_ | (refine s_o [(39, _), (40, _)] rfl z_g rfl z_su rfl q_full z_fp z_ss ?_)); clear z_g; refine s_wit ?_; intro z_g; (first | refine s_skip rfl z_g z_fp ?_ | (refine s_o [(4, _)] rfl z_g rfl z_su rfl q_move z_fp z_ss ?_)); clear z_g; refine s_wit ?_; intro z_g; (first | refine s_skip rfl z_g z_fp ?_ | (refine s_pure (callOf_eq rfl rfl rfl (mlk_tmp z_lk (mlk_tmp z_lk mlk_nil))) (?missing) rfl z_g z_ip z_fp ?_)); clear z_g; refine s_o [(37, _), (43, _)] rfl rfl rfl z_su rfl q_move z_fp z_ss ?_; exact wpS_nil ⟨rfl, rfl⟩)) z_su ?_; clear z_ex)
        ((repeat refine WpM.seq ?_); refine WpM.condT (by (simp (maxSteps := 2000000) (disch := omega) [go_sem, -List.map_map, h2'])) ?_)
        ((repeat refine WpM.seq ?_); have z_ex := True.intro; refine WpM.regPE [] [(2, _)] (by (refine s_o [] rfl rfl rfl z_su rfl q_move z_fp z_ss ?_; exact wpS_nil ⟨rfl, rfl⟩)) z_su ?_; clear z_ex)
        refine WpM.ret ?_
        exact ⟨.inr rfl, Upd.done ⟨_, (by (simp (maxSteps := 2000000) (disch := omega) [go_sem, -List.map_map, resV, resVs, resV1])), rfl, fun m k _ hk => by have := hH _ _ hk; (simp (maxSteps := 2000000) (disch := omega) [go_sem, -List.map_map, hk])⟩⟩
      · have h2' : ¬ (32 : Int) < s.size := by omega
        have h2'' : (s.size : Int) ≤ 32 := by omega
        by_cases h3 : 0 ≤ fi
        · rw [bad (by rw [hnb]; simp; omega), errno_f]
          ((repeat refine WpM.seq ?_); have z_ex := (And.intro @h1 (And.intro @h2' (And.intro @h2'' (And.intro @histBox.eq_1 (And.intro @strs.eq_1 (And.intro @hj (And.intro @h3 True.intro))))))); refine WpM.regPE [] [(1, _), (23, _), (24, _), (25, _), (44, _)] (by (refine s_o [(4, _)] rfl rfl rfl z_su rfl q_move z_fp z_ss ?_; refine s_o [(30, _)] rfl rfl rfl z_su rfl q_full z_fp z_ss ?_; refine s_o [(31, _)] rfl rfl rfl z_su rfl q_move z_fp z_ss ?_; refine s_wit ?_; intro z_g; (first | refine s_skip rfl z_g z_fp ?_ | (refine s_o [(4, _)] rfl z_g rfl z_su rfl q_move z_fp z_ss ?_)); clear z_g; refine s_wit ?_; intro z_g; (first | refine s_skip rfl z_g z_fp ?_ | (refine s_o [(33, _)] rfl z_g rfl z_su rfl q_full z_fp z_ss ?_)); clear z_g; refine s_wit ?_; intro z_g; (first | refine s_skip rfl z_g z_fp ?_ | (refine s_o [(34, _)] rfl z_g rfl z_su rfl q_full z_fp z_ss ?_)); clear z_g; refine s_o [(32, _), (35, _)] rfl rfl rfl z_su rfl q_move z_fp z_ss ?_; refine s_o [(36, _)] rfl rfl rfl z_su rfl q_move z_fp z_ss ?_; refine s_wit ?_; intro z_g; (first | refine s_skip rfl z_g z_fp ?_ | (refine s_o [(1, _)] rfl z_g rfl z_su rfl q_fieldAddr z_fp z_ss ?_)); clear z_g; refine s_wit ?_; intro z_g; (first | refine s_skip rfl z_g z_fp ?_ | (refine s_o [(38, _)] rfl z_g rfl z_su rfl q_load z_fp z_ss ?_)); clear z_g; refine s_wit ?_; intro z_g; (first | refine s_skip rfl z_g z_fp ?_ | (refine s_o [(3, _)] rfl z_g rfl z_su rfl q_move z_fp z_ss ?_)); clear z_g; refine s_wit ?_; intro z_g; (first | refine s_skip rfl z_g z_fp ?_ | (refine s_o [(39, _), (40, _)] rfl z_g rfl z_su rfl q_full z_fp z_ss ?_)); clear z_g; refine s_wit ?_; intro z_g; (first | refine s_skip rfl z_g z_fp ?_ | (refine s_o [(4, _)] rfl z_g rfl z_su rfl q_move z_fp z_ss ?_)); clear z_g; refine s_wit ?_; intro z_g; (first | refine s_skip rfl z_g z_fp ?_ | (refine s_pure (callOf_eq rfl rfl rfl (mlk_tmp z_lk (mlk_tmp z_lk mlk_nil))) (hfind) rfl z_g z_ip z_fp ?_)); clear z_g; refine s_o [(37, _), (43, _)] rfl rfl rfl z_su rfl q_move z_fp z_ss ?_; exact wpS_nil ⟨rfl, rfl⟩)) z_su ?_; clear z_ex)
          ((repeat refine WpM.seq ?_); refine WpM.condT (by (simp (maxSteps := 2000000) (disch := omega) [go_sem, -List.map_map, h3])) ?_)
          ((repeat refine WpM.seq ?_); have z_ex := True.intro; refine WpM.regPE [] [(2, _)] (by (refine s_o [] rfl rfl rfl z_su rfl q_move z_fp z_ss ?_; exact wpS_nil ⟨rfl, rfl⟩)) z_su ?_; clear z_ex)
          refine WpM.ret ?_
          exact ⟨.inr rfl, Upd.done ⟨_, (by (simp (maxSteps := 2000000) (disch := omega) [go_sem, -List.map_map, resV, resVs, resV1])), rfl, fun m k _ hk => by have := hH _ _ hk; (simp (maxSteps := 2000000) (disch := omega) [go_sem, -List.map_map, hk])⟩⟩
        · have h3' : fi < 0 := by omega
          ((repeat refine WpM.seq ?_); have z_ex := (And.intro @h1 (And.intro @h2' (And.intro @h2'' (And.intro @histBox.eq_1 (And.intro @strs.eq_1 (And.intro @hj (And.intro @h3' True.intro))))))); refine WpM.regPE [] [(1, _), (23, _), (24, _), (25, _), (44, _)] (by (refine s_o [(4, _)] rfl rfl rfl z_su rfl q_move z_fp z_ss ?_; refine s_o [(30, _)] rfl rfl rfl z_su rfl q_full z_fp z_ss ?_; refine s_o [(31, _)] rfl rfl rfl z_su rfl q_move z_fp z_ss ?_; refine s_wit ?_; intro z_g; (first | refine s_skip rfl z_g z_fp ?_ | (refine s_o [(4, _)] rfl z_g rfl z_su rfl q_move z_fp z_ss ?_)); clear z_g; refine s_wit ?_; intro z_g; (first | refine s_skip rfl z_g z_fp ?_ | (refine s_o [(33, _)] rfl z_g rfl z_su rfl q_full z_fp z_ss ?_)); clear z_g; refine s_wit ?_; intro z_g; (first | refine s_skip rfl z_g z_fp ?_ | (refine s_o [(34, _)] rfl z_g rfl z_su rfl q_full z_fp z_ss ?_)); clear z_g; refine s_o [(32, _), (35, _)] rfl rfl rfl z_su rfl q_move z_fp z_ss ?_; refine s_o [(36, _)] rfl rfl rfl z_su rfl q_move z_fp z_ss ?_; refine s_wit ?_; intro z_g; (first | refine s_skip rfl z_g z_fp ?_ | (refine s_o [(1, _)] rfl z_g rfl z_su rfl q_fieldAddr z_fp z_ss ?_)); clear z_g; refine s_wit ?_; intro z_g; (first | refine s_skip rfl z_g z_fp ?_ | (refine s_o [(38, _)] rfl z_g rfl z_su rfl q_load z_fp z_ss ?_)); clear z_g; refine s_wit ?_; intro z_g; (first | refine s_skip rfl z_g z_fp ?_ | (refine s_o [(3, _)] rfl z_g rfl z_su rfl q_move z_fp z_ss ?_)); clear z_g; refine s_wit ?_; intro z_g; (first | refine s_skip rfl z_g z_fp ?_ | (refine s_o [(39, _), (40, _)] rfl z_g rfl z_su rfl q_full z_fp z_ss ?_)); clear z_g; refine s_wit ?_; intro z_g; (first | refine s_skip rfl z_g z_fp ?_ | (refine s_o [(4, _)] rfl z_g rfl z_su rfl q_move z_fp z_ss ?_)); clear z_g; refine s_wit ?_; intro z_g; (first | refine s_skip rfl z_g z_fp ?_ | (refine s_pure (callOf_eq rfl rfl rfl (mlk_tmp z_lk (mlk_tmp z_lk mlk_nil))) (hfind) rfl z_g z_ip z_fp ?_)); clear z_g; refine s_o [(37, _), (43, _)] rfl rfl rfl z_su rfl q_move z_fp z_ss ?_; exact wpS_nil ⟨rfl, rfl⟩)) z_su ?_; clear z_ex)
          ((repeat refine WpM.seq ?_); refine WpM.condF (by (simp (maxSteps := 2000000) (disch := omega) [go_sem, -List.map_map, h3'])) ?_)
          refine WpM.skip ?_
          ((repeat refine WpM.seq ?_); have z_ex := (And.intro @wrap_id True.intro); refine WpM.regPE [] [(1, _), (23, _), (24, _), (25, _)] (by (refine s_o [(25, _)] rfl rfl rfl z_su rfl q_full z_fp z_ss ?_; refine s_o [(45, _)] rfl rfl rfl z_su rfl q_move z_fp z_ss ?_; exact wpS_nil ⟨rfl, rfl⟩)) z_su ?_; clear z_ex)
          have hall' : ∀ i, i < j + 1 → nameB h.keys i = true := fun i hi => by
            rcases Nat.lt_or_ge i j with h' | h'
            · exact hall i h'
            · obtain rfl : i = j := by omega
              rw [hnb]; simp [h3']; omega
          refine round_end (x' := j + 1) (St.Le.refl _) (Sub.le z_su) ⟨by omega, hall', rfl, _, ?_, rfl⟩ (by omega)
          show n0 < nx + _; omega
  · ((repeat refine WpM.seq ?_); refine WpM.condF (by (simp (maxSteps := 2000000) (disch := omega) [go_sem, -List.map_map, hlt])) ?_)
    (refine WpM.exit ?_; (repeat (with_reducible (first | refine thenM_exit ?_ | refine blockM_eq ?_ | refine blockM_ne (by decide) ?_))))
    obtain rfl : j = h.keys.length := by omega
    have hnm : namesB h.keys = true := by rw [names_good hall]; simp; omega
    clear hall hlt hj
    ((repeat refine WpM.seq ?_); have z_ex := True.intro; refine WpM.regP [] ?_; intro K hK; refine s_call (callOf_eq rfl rfl rfl mlk_nil) (new47 ⟨_, [(n0, some (histBox h))], H⟩) rfl rfl z_ip ?_; rintro _ z_S ⟨L, O, rfl, hLed, hO, hnx1, old⟩; refine s_put z_fp ?_; refine s_o [(46, _)] rfl rfl rfl z_su rfl q_move z_fp z_ss ?_; refine s_endE [(1, _), (5, _)] hK z_su ?_; clear hK K; clear z_ex)
    refine WpM.norm ?_
    intro nx1 G1 hnx2 hG1 hk1
    have hLed1 : LedAt G1 L Bk.empty O := by rw [hG1]; exact hLed
    have hO1 : ∀ m, O m → n0 < m ∧ m < nx1 := fun m hm => by
      have := hO m hm
      have h2 : nx1 = _ + 1 := hnx2
      have h3 : nx + 1 ≤ m := this.1
      omega
    have hn1 : n0 < nx1 := by have h2 : nx1 = _ + 1 := hnx2; have h3 : nx + 1 ≤ _ := hnx1; omega
    have hbx1 : G1 n0 = some (histBox h) := by rw [hG1]; exact old n0 _ (by (simp (maxSteps := 2000000) (disch := omega) [go_sem, -List.map_map]))
    have hold1 : ∀ m k, H m = some k → G1 m = some k := fun m k hk => by
      have := hH _ _ hk
      rw [hG1]
      exact old m k (by (simp (maxSteps := 2000000) (disch := omega) [go_sem, -List.map_map, hk]))
    clear hLed hO hnx1 old hnx2 hG1 hk1
    ((repeat refine WpM.seq ?_); have z_ex := (And.intro @hbx1 (And.intro @histBox.eq_1 True.intro)); refine WpM.regPE [] [(1, _), (5, _), (48, _), (49, _), (50, _)] (by (refine s_o [(1, _)] rfl rfl rfl z_su rfl q_fieldAddr z_fp z_ss ?_; refine s_o [(47, _)] rfl rfl rfl z_su rfl q_load z_fp z_ss ?_; refine s_o [(48, _)] rfl rfl rfl z_su rfl q_full z_fp z_ss ?_; refine s_o [] rfl rfl rfl z_su rfl q_move z_fp z_ss ?_; exact wpS_nil ⟨rfl, rfl⟩)) z_su ?_; clear z_ex)
    ((repeat refine WpM.seq ?_); refine WpM.block ?_)
    refine WpM.loop (fun (i : Nat) fr S => i ≤ h.txns.length ∧ ∃ nx G b O, S = ⟨nx, [], G⟩ ∧ checkSt h i = some b ∧ LedAt G L b O ∧ (∀ m, O m → n0 < m ∧ m < nx) ∧ n0 < nx ∧ G n0 = some (histBox h) ∧ (∀ m k, H m = some k → G m = some k) ∧ fr = frOf [(1, .ptr n0 0), (5, .ptr L 0), (48, .d (.sl (h.txns.map encTxn))), (49, .d (.int .i64 h.txns.length)), (50, .d (.int .i64 i))]) (fun i => h.txns.length - i) 0 (St.Le.refl _) (Sub.le z_su) ⟨by omega, _, G1, Bk.empty, O, rfl, rfl, hLed1, fun m hm => ⟨(hO1 m hm).1, ?_⟩, ?_, hbx1, hold1, rfl⟩ ?_
    · have := (hO1 m hm).2; show m < nx1 + _; omega
    · show n0 < nx1 + _; omega
    clear hLed1 hO1 hn1 hbx1 hold1
    rintro i fr S' ⟨hi, nx2, G, b, O, rfl, hst, hLed, hO, hn2, hbx, hold, rfl⟩
    refine WpM.known fun hGk => ?_
    have hGk : ∀ m k, G m = some k → m < nx2 := hGk
    ((repeat refine WpM.seq ?_); have z_ex := True.intro; refine WpM.regPE [] [(1, _), (5, _), (48, _), (49, _), (50, _), (51, _)] (by (refine s_o [(49, _), (50, _)] rfl rfl rfl z_su rfl q_full z_fp z_ss ?_; exact wpS_nil ⟨rfl, rfl⟩)) z_su ?_; clear z_ex)
    by_cases hit : i < h.txns.length
    · ((repeat refine WpM.seq ?_); refine WpM.condT (by (simp (maxSteps := 2000000) (disch := omega) [go_sem, -List.map_map, hit])) ?_)
      refine WpM.skip ?_
      ((repeat refine WpM.seq ?_); refine WpM.block ?_)
      obtain ⟨t, ht⟩ : ∃ t, t = h.txns[i] := ⟨_, rfl⟩
      have hget : (h.txns.map encTxn)[i]? = some (encTxn t) := by simp [hit, ht]
      have htok := hh.2.2 t (ht ▸ List.getElem_mem _)
      have hstep := stepT_get (b := b) hit
      rw [← ht] at hstep
      have hcalls := calls53 h hh t htok
      have hplaced := placed54 (h.txns.take i) (by simp; omega) t
      rw [List.map_take] at hplaced
      have htakes : (h.txns.map encTxn).take i = (h.txns.map encTxn).take i := rfl
      obtain ⟨ev, hev⟩ : ∃ ev, ev = evOf h.keys t := ⟨_, rfl⟩
      obtain ⟨ok, hok⟩ : ∃ ok, ok = evOkB h.keys t := ⟨_, rfl⟩
      obtain ⟨pl, hpl⟩ : ∃ pl, pl = placedB (h.txns.take i) t := ⟨_, rfl⟩
      rw [← hev, ← hok] at hcalls hstep
      rw [← hpl] at hplaced hstep
      ((repeat refine WpM.seq ?_); have z_ex := (And.intro @hget (And.intro @encTxn.eq_1 True.intro)); refine WpM.regPE [] [(1, _), (5, _), (6, _), (7, _), (48, _), (49, _), (50, _)] (by (refine s_o [(50, _)] rfl rfl rfl z_su rfl q_move z_fp z_ss ?_; refine s_o [(48, _), (50, _)] rfl rfl rfl z_su rfl q_full z_fp z_ss ?_; refine s_o [(53, _)] rfl rfl rfl z_su rfl q_load z_fp z_ss ?_; refine s_o [] rfl rfl rfl z_su rfl q_alloc z_fp z_ss ?_; refine s_o [(52, _)] rfl rfl rfl z_su rfl q_move z_fp z_ss ?_; refine s_o [(7, _), (54, _)] rfl rfl rfl z_su rfl q_store z_fp z_ss ?_; exact wpS_nil ⟨rfl, rfl⟩)) z_su ?_; clear z_ex)
      ((repeat refine WpM.seq ?_); have z_ex := (And.intro @hbx (And.intro @histBox.eq_1 (And.intro @encEvent.eq_1 True.intro))); refine WpM.regPE [] [(1, _), (5, _), (6, _), (7, _), (8, _), (9, _), (48, _), (49, _), (50, _)] (by (refine s_o [(1, _)] rfl rfl rfl z_su rfl q_load z_fp z_ss ?_; refine s_o [(7, _)] rfl rfl rfl z_su rfl q_load z_fp z_ss ?_; refine s_pure (callOf_eq rfl rfl rfl (mlk_tmp z_lk (mlk_tmp z_lk mlk_nil))) (hcalls) rfl rfl z_ip z_fp ?_; refine s_o [(58, _)] rfl rfl rfl z_su rfl q_move z_fp z_ss ?_; refine s_o [(55, _)] rfl rfl rfl z_su rfl q_extract z_fp z_ss ?_; refine s_o [(55, _)] rfl rfl rfl z_su rfl q_extract z_fp z_ss ?_; refine s_o [] rfl rfl rfl z_su rfl q_alloc z_fp z_ss ?_; refine s_o [(8, _), (59, _)] rfl rfl rfl z_su rfl q_store z_fp z_ss ?_; refine s_o [(60, _)] rfl rfl rfl z_su rfl q_move z_fp z_ss ?_; exact wpS_nil ⟨rfl, rfl⟩)) z_su ?_; clear z_ex)
      cases ok with
      | false =>
        rw [checkB_bad hit hst (by rw [hstep]; rfl), errno_f]
        ((repeat refine WpM.seq ?_); have z_ex := True.intro; refine WpM.drwPE [] [(1, _), (5, _), (6, _), (8, _), (48, _), (49, _), (50, _), (71, _)] mixed (by kernel_rfl) (by kernel_rfl) [] (by kernel_rfl) (by (refine d_o [(9, _)] rfl rfl rfl z_su rfl q_move z_fp z_ss rfl ?_; refine d_o [(61, _)] rfl rfl rfl z_su rfl q_unOp z_fp z_ss rfl ?_; refine d_o [(62, _)] rfl rfl rfl z_su rfl q_move z_fp z_ss rfl ?_; refine d_wit ?_; intro z_g; (first | refine d_skip rfl z_g z_fp ?_ | (refine d_o [(1, _)] rfl z_g rfl z_su rfl q_fieldAddr z_fp z_ss rfl ?_)); clear z_g; refine d_wit ?_; intro z_g; (first | refine d_skip rfl z_g z_fp ?_ | (refine d_o [(64, _)] rfl z_g rfl z_su rfl q_load z_fp z_ss rfl ?_)); clear z_g; refine d_wit ?_; intro z_g; (first | refine d_skip rfl z_g z_fp ?_ | (refine d_o [(6, _)] rfl z_g rfl z_su rfl q_move z_fp z_ss rfl ?_)); clear z_g; refine d_wit ?_; intro z_g; (first | refine d_skip rfl z_g z_fp ?_ | (refine d_o [(65, _), (66, _)] rfl z_g rfl z_su rfl q_full z_fp z_ss rfl ?_)); clear z_g; refine d_wit ?_; intro z_g; (first | refine d_skip rfl z_g z_fp ?_ | (refine d_o [(7, _)] rfl z_g rfl z_su rfl q_load z_fp z_ss rfl ?_)); clear z_g; refine d_wit ?_; intro z_g; (first | refine d_skip rfl z_g z_fp ?_ | (refine d_pure (callOf_eq rfl rfl rfl (mlk_tmp z_lk (mlk_tmp z_lk mlk_nil))) (?missing) rfl z_g z_ip rfl z_fp ?_)); clear z_g; refine d_wit ?_; intro z_g; (first | refine d_skip rfl z_g z_fp ?_ | (refine d_o [(69, _)] rfl z_g rfl z_su rfl q_unOp z_fp z_ss rfl ?_)); clear z_g; refine d_o [(63, _), (70, _)] rfl rfl rfl z_su rfl q_move z_fp z_ss rfl ?_; exact d_end z_mt z_sn)) z_su ?_; clear z_ex)
        ((repeat refine WpM.seq ?_); refine WpM.condT (by (simp (maxSteps := 2000000) (disch := omega) [go_sem, -List.map_map])) ?_)
        ((repeat refine WpM.seq ?_); have z_ex := True.intro; refine WpM.regPE [] [(2, _)] (by (refine s_o [] rfl rfl rfl z_su rfl q_move z_fp z_ss ?_; exact wpS_nil ⟨rfl, rfl⟩)) z_su ?_; clear z_ex)
        refine WpM.ret ?_
        exact ⟨.inr rfl, Upd.done ⟨_, (by (simp (maxSteps := 2000000) (disch := omega) [go_sem, -List.map_map, resV, resVs, resV1])), rfl, fun m k _ hk => by have h9 := hH _ _ hk; have h8 := hold m k hk; (simp (maxSteps := 2000000) (disch := omega) [go_sem, -List.map_map, h8])⟩⟩
      | true =>
        cases pl with
        | false =>
          rw [checkB_bad hit hst (by rw [hstep]; rfl), errno_f]
          ((repeat refine WpM.seq ?_); have z_ex := (And.intro @hbx (And.intro @histBox.eq_1 (And.intro @hi (And.intro @okEl_txn True.intro)))); refine WpM.drwPE [] [(1, _), (5, _), (6, _), (8, _), (48, _), (49, _), (50, _), (71, _)] mixed (by kernel_rfl) (by kernel_rfl) [] (by kernel_rfl) (by (refine d_o [(9, _)] rfl rfl rfl z_su rfl q_move z_fp z_ss rfl ?_; refine d_o [(61, _)] rfl rfl rfl z_su rfl q_unOp z_fp z_ss rfl ?_; refine d_o [(62, _)] rfl rfl rfl z_su rfl q_move z_fp z_ss rfl ?_; refine d_wit ?_; intro z_g; (first | refine d_skip rfl z_g z_fp ?_ | (refine d_o [(1, _)] rfl z_g rfl z_su rfl q_fieldAddr z_fp z_ss rfl ?_)); clear z_g; refine d_wit ?_; intro z_g; (first | refine d_skip rfl z_g z_fp ?_ | (refine d_o [(64, _)] rfl z_g rfl z_su rfl q_load z_fp z_ss rfl ?_)); clear z_g; refine d_wit ?_; intro z_g; (first | refine d_skip rfl z_g z_fp ?_ | (refine d_o [(6, _)] rfl z_g rfl z_su rfl q_move z_fp z_ss rfl ?_)); clear z_g; refine d_wit ?_; intro z_g; (first | refine d_skip rfl z_g z_fp ?_ | (refine d_o [(65, _), (66, _)] rfl z_g rfl z_su rfl q_full z_fp z_ss rfl ?_)); clear z_g; refine d_wit ?_; intro z_g; (first | refine d_skip rfl z_g z_fp ?_ | (refine d_o [(7, _)] rfl z_g rfl z_su rfl q_load z_fp z_ss rfl ?_)); clear z_g; refine d_wit ?_; intro z_g; (first | refine d_skip rfl z_g z_fp ?_ | (refine d_pure (callOf_eq rfl rfl rfl (mlk_tmp z_lk (mlk_tmp z_lk mlk_nil))) (hplaced) rfl z_g z_ip rfl z_fp ?_)); clear z_g; refine d_wit ?_; intro z_g; (first | refine d_skip rfl z_g z_fp ?_ | (refine d_o [(69, _)] rfl z_g rfl z_su rfl q_unOp z_fp z_ss rfl ?_)); clear z_g; refine d_o [(63, _), (70, _)] rfl rfl rfl z_su rfl q_move z_fp z_ss rfl ?_; exact d_end z_mt z_sn)) z_su ?_; clear z_ex)
          ((repeat refine WpM.seq ?_); refine WpM.condT (by (simp (maxSteps := 2000000) (disch := omega) [go_sem, -List.map_map])) ?_)
          ((repeat refine WpM.seq ?_); have z_ex := True.intro; refine WpM.regPE [] [(2, _)] (by (refine s_o [] rfl rfl rfl z_su rfl q_move z_fp z_ss ?_; exact wpS_nil ⟨rfl, rfl⟩)) z_su ?_; clear z_ex)
          refine WpM.ret ?_
          exact ⟨.inr rfl, Upd.done ⟨_, (by (simp (maxSteps := 2000000) (disch := omega) [go_sem, -List.map_map, resV, resVs, resV1])), rfl, fun m k _ hk => by have h9 := hH _ _ hk; have h8 := hold m k hk; (simp (maxSteps := 2000000) (disch := omega) [go_sem, -List.map_map, h8])⟩⟩
        | true =>
          ((repeat refine WpM.seq ?_); have z_ex := (And.intro @hbx (And.intro @histBox.eq_1 (And.intro @hi (And.intro @okEl_txn True.intro)))); refine WpM.drwPE [] [(1, _), (5, _), (6, _), (8, _), (48, _), (49, _), (50, _), (71, _)] mixed (by kernel_rfl) (by kernel_rfl) [] (by kernel_rfl) (by (refine d_o [(9, _)] rfl rfl rfl z_su rfl q_move z_fp z_ss rfl ?_; refine d_o [(61, _)] rfl rfl rfl z_su rfl q_unOp z_fp z_ss rfl ?_; refine d_o [(62, _)] rfl rfl rfl z_su rfl q_move z_fp z_ss rfl ?_; refine d_wit ?_; intro z_g; (first | refine d_skip rfl z_g z_fp ?_ | (refine d_o [(1, _)] rfl z_g rfl z_su rfl q_fieldAddr z_fp z_ss rfl ?_)); clear z_g; refine d_wit ?_; intro z_g; (first | refine d_skip rfl z_g z_fp ?_ | (refine d_o [(64, _)] rfl z_g rfl z_su rfl q_load z_fp z_ss rfl ?_)); clear z_g; refine d_wit ?_; intro z_g; (first | refine d_skip rfl z_g z_fp ?_ | (refine d_o [(6, _)] rfl z_g rfl z_su rfl q_move z_fp z_ss rfl ?_)); clear z_g; refine d_wit ?_; intro z_g; (first | refine d_skip rfl z_g z_fp ?_ | (refine d_o [(65, _), (66, _)] rfl z_g rfl z_su rfl q_full z_fp z_ss rfl ?_)); clear z_g; refine d_wit ?_; intro z_g; (first | refine d_skip rfl z_g z_fp ?_ | (refine d_o [(7, _)] rfl z_g rfl z_su rfl q_load z_fp z_ss rfl ?_)); clear z_g; refine d_wit ?_; intro z_g; (first | refine d_skip rfl z_g z_fp ?_ | (refine d_pure (callOf_eq rfl rfl rfl (mlk_tmp z_lk (mlk_tmp z_lk mlk_nil))) (hplaced) rfl z_g z_ip rfl z_fp ?_)); clear z_g; refine d_wit ?_; intro z_g; (first | refine d_skip rfl z_g z_fp ?_ | (refine d_o [(69, _)] rfl z_g rfl z_su rfl q_unOp z_fp z_ss rfl ?_)); clear z_g; refine d_o [(63, _), (70, _)] rfl rfl rfl z_su rfl q_move z_fp z_ss rfl ?_; exact d_end z_mt z_sn)) z_su ?_; clear z_ex)
          ((repeat refine WpM.seq ?_); refine WpM.condF (by (simp (maxSteps := 2000000) (disch := omega) [go_sem, -List.map_map])) ?_)
          refine WpM.skip ?_
          ((repeat refine WpM.seq ?_); have z_ex := True.intro; refine WpM.regPE [] [(1, _), (5, _), (6, _), (48, _), (49, _), (50, _), (73, _), (74, _), (75, _)] (by (refine s_o [(8, _)] rfl rfl rfl z_su rfl q_fieldAddr z_fp z_ss ?_; refine s_o [(72, _)] rfl rfl rfl z_su rfl q_load z_fp z_ss ?_; refine s_o [(73, _)] rfl rfl rfl z_su rfl q_full z_fp z_ss ?_; refine s_o [] rfl rfl rfl z_su rfl q_move z_fp z_ss ?_; exact wpS_nil ⟨rfl, rfl⟩)) z_su ?_; clear z_ex)
          have hevok : eventOk ev = true := by rw [hev]; rw [evOkB, ← hev] at hok; have := hok.symm; rw [Bool.and_eq_true] at this; rw [← hev]; exact this.2
          obtain ⟨_, _, hl16, hcok⟩ := eventOk_spec hevok
          have hwf0 := checkSt_wf hst
          ((repeat refine WpM.seq ?_); refine WpM.block ?_)
          refine WpM.loop (fun (k : Nat) fr S => k ≤ ev.calls.length ∧ ∃ nx G b3 O, S = ⟨nx, [], G⟩ ∧ enters b (ev.calls.take k) i = some b3 ∧ LedAt G L b3 O ∧ (∀ m, O m → n0 < m ∧ m < nx) ∧ n0 < nx ∧ G n0 = some (histBox h) ∧ (∀ m k, H m = some k → G m = some k) ∧ fr = frOf [(1, .ptr n0 0), (5, .ptr L 0), (6, .d (.int .i64 i)), (48, .d (.sl (h.txns.map encTxn))), (49, .d (.int .i64 h.txns.length)), (50, .d (.int .i64 i)), (73, .d (.sl (ev.calls.map encCall))), (74, .d (.int .i64 ev.calls.length)), (75, .d (.int .i64 k))]) (fun k => ev.calls.length - k) 0 (le_cut (n0 := nx2) (n' := nx2 + 30) (l' := []) hGk (by (simp (maxSteps := 2000000) (disch := omega) [go_sem, -List.map_map])) (Nat.le_refl _) (by (simp (maxSteps := 2000000) (disch := omega) [go_sem, -List.map_map]))) (Sub.le z_su) ⟨by omega, nx2 + 30, G, b, O, rfl, rfl, hLed, fun m hm => ⟨(hO m hm).1, by have := (hO m hm).2; omega⟩, by omega, hbx, hold, rfl⟩ ?_
          clear hLed hO hn2 hbx hold hGk
          rintro k fr S' ⟨hk, nx3, G, b3, O, rfl, hent, hLed, hO, hn3, hbx, hold, rfl⟩
          refine WpM.known fun hGk => ?_
          have hGk : ∀ m k, G m = some k → m < nx3 := hGk
          ((repeat refine WpM.seq ?_); have z_ex := True.intro; refine WpM.regPE [] [(1, _), (5, _), (6, _), (48, _), (49, _), (50, _), (73, _), (74, _), (75, _), (76, _)] (by (refine s_o [(74, _), (75, _)] rfl rfl rfl z_su rfl q_full z_fp z_ss ?_; exact wpS_nil ⟨rfl, rfl⟩)) z_su ?_; clear z_ex)
          by_cases hkt : k < ev.calls.length
          · ((repeat refine WpM.seq ?_); refine WpM.condT (by (simp (maxSteps := 2000000) (disch := omega) [go_sem, -List.map_map, hkt])) ?_)
            refine WpM.skip ?_
            ((repeat refine WpM.seq ?_); refine WpM.block ?_)
            obtain ⟨c, hc⟩ : ∃ c, c = ev.calls[k] := ⟨_, rfl⟩
            have hgetc : (ev.calls.map encCall)[k]? = some (encCall c) := by simp [hkt, hc]
            obtain ⟨hk1, hk8⟩ := callOk_kind (hcok c (hc ▸ List.getElem_mem _))
            have hnext := enters_take ev.calls b i k hkt b3 hent
            rw [← hc] at hnext
            have hwf3 := enters_wf _ hwf0 hent
            have hLed' : ∀ (nn nb : Nat) (q : Option Blk), nx3 ≤ nb → LedAt (St.get ⟨nn, [(nb, q)], G⟩) L b3 O := fun nn nb q hnb => hLed.same fun m k ho hk => by
              have := (hO m ho).2
              (simp (maxSteps := 2000000) (disch := omega) [go_sem, -List.map_map, hk])
            have hE := fun S h1 h2 => enter48 b3 _ hwf3 c hk1 hk8 i L O S h1 h2
            ((repeat refine WpM.seq ?_); have z_ex := (And.intro @hgetc (And.intro @encCall.eq_1 True.intro)); refine WpM.regPE [] [(1, _), (5, _), (6, _), (11, _), (48, _), (49, _), (50, _), (73, _), (74, _), (75, _)] (by (refine s_o [(73, _), (75, _)] rfl rfl rfl z_su rfl q_full z_fp z_ss ?_; refine s_o [(77, _)] rfl rfl rfl z_su rfl q_load z_fp z_ss ?_; refine s_o [] rfl rfl rfl z_su rfl q_alloc z_fp z_ss ?_; refine s_o [(11, _), (78, _)] rfl rfl rfl z_su rfl q_store z_fp z_ss ?_; exact wpS_nil ⟨rfl, rfl⟩)) z_su ?_; clear z_ex)
            cases he : enterB b3 c i with
            | error e =>
              rw [he] at hE hnext
              rw [checkB_bad hit hst (by rw [hstep]; exact enters_stop ev.calls b i (k + 1) hnext), errno_f]
              ((repeat refine WpM.seq ?_); have z_ex := (And.intro @encCall.eq_1 True.intro); refine WpM.regP [] ?_; intro K hK; refine s_o [(5, _)] rfl rfl rfl z_su rfl q_move z_fp z_ss ?_; refine s_o [(11, _)] rfl rfl rfl z_su rfl q_load z_fp z_ss ?_; refine s_o [(6, _)] rfl rfl rfl z_su rfl q_move z_fp z_ss ?_; refine s_call (callOf_eq rfl rfl rfl (mlk_tmp z_lk (mlk_tmp z_lk (mlk_tmp z_lk mlk_nil)))) (hE _ (hLed' _ _ _ (by omega)) (fun m hm => by have := (hO m hm).2; show m < nx3 + _; omega)) rfl rfl z_ip ?_; rintro _ z_S ⟨hnx, old, rfl, hne⟩; refine s_put z_fp ?_; refine s_o [(82, _)] rfl rfl rfl z_su rfl q_full z_fp z_ss ?_; refine s_endE [(1, _), (5, _), (6, _), (48, _), (49, _), (50, _), (73, _), (74, _), (75, _), (83, _)] hK z_su ?_; clear hK K; clear z_ex)
              ((repeat refine WpM.seq ?_); refine WpM.condT (by (simp (maxSteps := 2000000) (disch := omega) [go_sem, -List.map_map, hne])) ?_)
              ((repeat refine WpM.seq ?_); have z_ex := True.intro; refine WpM.regPE [] [(2, _)] (by (refine s_o [] rfl rfl rfl z_su rfl q_move z_fp z_ss ?_; exact wpS_nil ⟨rfl, rfl⟩)) z_su ?_; clear z_ex)
              refine WpM.ret ?_
              exact ⟨.inr rfl, Upd.done ⟨_, (by (simp (maxSteps := 2000000) (disch := omega) [go_sem, -List.map_map, resV, resVs, resV1])), rfl, fun m k _ hk => by have h9 := hH _ _ hk; have h8 := hold m k hk; exact old m k (fun h => by have := (hO m h).1; omega) (by have h7 := hGk m k h8; (simp (maxSteps := 2000000) (disch := omega) [go_sem, -List.map_map, h8]))⟩⟩
            | ok b4 =>
              rw [he] at hE hnext
              ((repeat refine WpM.seq ?_); have z_ex := (And.intro @encCall.eq_1 True.intro); refine WpM.regP [] ?_; intro K hK; refine s_o [(5, _)] rfl rfl rfl z_su rfl q_move z_fp z_ss ?_; refine s_o [(11, _)] rfl rfl rfl z_su rfl q_load z_fp z_ss ?_; refine s_o [(6, _)] rfl rfl rfl z_su rfl q_move z_fp z_ss ?_; refine s_call (callOf_eq rfl rfl rfl (mlk_tmp z_lk (mlk_tmp z_lk (mlk_tmp z_lk mlk_nil)))) (hE _ (hLed' _ _ _ (by omega)) (fun m hm => by have := (hO m hm).2; show m < nx3 + _; omega)) rfl rfl z_ip ?_; rintro _ z_S ⟨hnx, old, rfl, O4, hO4, hLed4⟩; refine s_put z_fp ?_; refine s_o [(82, _)] rfl rfl rfl z_su rfl q_full z_fp z_ss ?_; refine s_endE [(1, _), (5, _), (6, _), (48, _), (49, _), (50, _), (73, _), (74, _), (75, _), (83, _)] hK z_su ?_; clear hK K; clear z_ex)
              ((repeat refine WpM.seq ?_); refine WpM.condF (by (simp (maxSteps := 2000000) (disch := omega) [go_sem, -List.map_map])) ?_)
              refine WpM.skip ?_
              refine WpM.norm ?_
              intro nx4 G4 hnx4 hG4 hk4
              ((repeat refine WpM.seq ?_); have z_ex := (And.intro @wrap_id True.intro); refine WpM.regPE [] [(1, _), (5, _), (6, _), (48, _), (49, _), (50, _), (73, _), (74, _), (75, _)] (by (refine s_o [(75, _)] rfl rfl rfl z_su rfl q_full z_fp z_ss ?_; refine s_o [(84, _)] rfl rfl rfl z_su rfl q_move z_fp z_ss ?_; exact wpS_nil ⟨rfl, rfl⟩)) z_su ?_; clear z_ex)
              refine round_end (x' := k + 1) (St.Le.refl _) (Sub.le z_su) ⟨by omega, _, G4, b4, O4, rfl, hnext, by rw [hG4]; exact hLed4, fun m hm => ?_, ?_, ?_, fun m q hq => ?_, rfl⟩ (by omega)
              · obtain ⟨h1, h2⟩ := hO4 m hm
                have h3 : nx4 = _ + 1 := hnx4
                refine ⟨?_, by show m < nx4 + _; omega⟩
                rcases h1 with h1 | h1
                · exact (hO m h1).1
                · have h4 : nx3 + _ ≤ m := h1
                  omega
              · have h3 : nx4 = _ + 1 := hnx4
                have h4 : nx3 + _ ≤ _ := hnx
                show n0 < nx4 + _; omega
              · rw [hG4]
                exact old n0 _ (fun h => by have := (hO n0 h).1; omega) (by (simp (maxSteps := 2000000) (disch := omega) [go_sem, -List.map_map, hbx]))
              · have h8 := hold m q hq
                have h7 := hGk m q h8
                have h9 := hH m q hq
                rw [hG4]
                exact old m q (fun h => by have := (hO m h).1; omega) (by (simp (maxSteps := 2000000) (disch := omega) [go_sem, -List.map_map, h8]))
          · ((repeat refine WpM.seq ?_); refine WpM.condF (by (simp (maxSteps := 2000000) (disch := omega) [go_sem, -List.map_map, hkt])) ?_)
            (refine WpM.exit ?_; (repeat (with_reducible (first | refine thenM_exit ?_ | refine blockM_eq ?_ | refine blockM_ne (by decide) ?_))))
            obtain rfl : k = ev.calls.length := by omega
            rw [List.take_length] at hent
            ((repeat refine WpM.seq ?_); have z_ex := (And.intro @wrap_id True.intro); refine WpM.regPE [] [(1, _), (5, _), (48, _), (49, _), (50, _)] (by (refine s_o [(50, _)] rfl rfl rfl z_su rfl q_full z_fp z_ss ?_; refine s_o [(85, _)] rfl rfl rfl z_su rfl q_move z_fp z_ss ?_; exact wpS_nil ⟨rfl, rfl⟩)) z_su ?_; clear z_ex)
            refine round_end (x' := i + 1) (St.Le.refl _) (Sub.le z_su) ⟨by omega, _, G, b3, O, rfl, by rw [checkSt, hst]; exact hstep.trans hent, hLed, fun m hm => ⟨(hO m hm).1, ?_⟩, ?_, hbx, hold, rfl⟩ (by omega)
            · have := (hO m hm).2; show m < nx3 + _; omega
            · show n0 < nx3 + _; omega
    · ((repeat refine WpM.seq ?_); refine WpM.condF (by (simp (maxSteps := 2000000) (disch := omega) [go_sem, -List.map_map, hit])) ?_)
      (refine WpM.exit ?_; (repeat (with_reducible (first | refine thenM_exit ?_ | refine blockM_eq ?_ | refine blockM_ne (by decide) ?_))))
      obtain rfl : i = h.txns.length := by omega
      have hr : checkB h = true := by simp [checkB, hnm, hst]; omega
      rw [hr, errno_t]
      ((repeat refine WpM.seq ?_); have z_ex := True.intro; refine WpM.regPE [] [(2, _)] (by (refine s_o [] rfl rfl rfl z_su rfl q_move z_fp z_ss ?_; exact wpS_nil ⟨rfl, rfl⟩)) z_su ?_; clear z_ex)
      refine WpM.ret ?_
      exact ⟨.inr rfl, Upd.done ⟨_, (by (simp (maxSteps := 2000000) (disch := omega) [go_sem, -List.map_map, resV, resVs, resV1])), rfl, fun m k _ hk => by have h9 := hH _ _ hk; have h8 := hold m k hk; (simp (maxSteps := 2000000) (disch := omega) [go_sem, -List.map_map, h8])⟩⟩
end Go.Proofs.Ytjjmedgibcffhaa
/- How the reference's book lies in memory. -/
namespace Go.Proofs.Ytjjmedgibcffhaa
open Go.RowKit M
set_option linter.unusedSimpArgs false
set_option linter.unusedVariables false
def lastD (l : List Int) : Int := l.getLast?.getD (-1)
/-- The book at L holds b, by its names; O: the names it owns. -/
structure BookN (G : Nat → Option Blk) (L nk nt nw ni nl : Nat) (ws : List V) (r : Nat → Nat) (b : Bk) (O : Nat → Prop) : Prop where
  box : G L = some (.box [.ms nk 1 0 b.keys.length, .ms nt 1 0 b.types.length, .ms nw 1 0 b.wrote.length, .ms ni 1 0 b.incs.length, .ms nl 1 0 b.incs.length])
  keys : G nk = some (.row 1 (b.keys.map fun s => .d (.str s)))
  types : G nt = some (.row 1 (b.types.map fun t => .d (.int .i64 t)))
  wr : G nw = some (.row 1 ws)
  incs : G ni = some (.row 1 (b.incs.map fun l => .d (.int .i64 l.length)))
  last : G nl = some (.row 1 (b.incs.map fun l => .d (.int .i64 (lastD l))))
  wlen : ws.length = b.wrote.length
  w0 : ∀ k, k < ws.length → b.wrote.getD k [] = [] → ws[k]? = some (.d .nil)
  w1 : ∀ k, b.wrote.getD k [] ≠ [] → ws[k]? = some (.ms (r k) 1 0 (b.wrote.getD k []).length) ∧ G (r k) = some (.row 1 ((b.wrote.getD k []).map fun t => .d (.int .i64 t))) ∧ O (r k) ∧ r k ≠ nk ∧ r k ≠ nt ∧ r k ≠ nw ∧ r k ≠ ni ∧ r k ≠ nl
  rinj : ∀ s s', b.wrote.getD s [] ≠ [] → b.wrote.getD s' [] ≠ [] → r s = r s' → s = s'
  oL : O L
  ok : O nk
  ot : O nt
  ow : O nw
  oi : O ni
  ol : O nl
  ne : nk ≠ nt ∧ nk ≠ nw ∧ nk ≠ ni ∧ nk ≠ nl ∧ nt ≠ nw ∧ nt ≠ ni ∧ nt ≠ nl ∧ nw ≠ ni ∧ nw ≠ nl ∧ ni ≠ nl
def BookAt (G : Nat → Option Blk) (L : Nat) (b : Bk) (O : Nat → Prop) : Prop := ∃ nk nt nw ni nl ws r, BookN G L nk nt nw ni nl ws r b O
theorem BookAt.same {G G' : Nat → Option Blk} {L : Nat} {b : Bk} {O : Nat → Prop} (h : BookAt G L b O) (hs : ∀ m k, O m → G m = some k → G' m = some k) : BookAt G' L b O := by
  obtain ⟨nk, nt, nw, ni, nl, ws, r, h⟩ := h
  exact ⟨nk, nt, nw, ni, nl, ws, r, hs _ _ h.oL h.box, hs _ _ h.ok h.keys, hs _ _ h.ot h.types, hs _ _ h.ow h.wr, hs _ _ h.oi h.incs, hs _ _ h.ol h.last, h.wlen, h.w0,
    fun s hn => ⟨(h.w1 s hn).1, hs _ _ (h.w1 s hn).2.2.1 (h.w1 s hn).2.1, (h.w1 s hn).2.2⟩, h.rinj, h.oL, h.ok, h.ot, h.ow, h.oi, h.ol, h.ne⟩
section
variable {G G' : Nat → Option Blk} {L nk nt nw ni nl : Nat} {ws : List V} {r : Nat → Nat} {b : Bk} {O : Nat → Prop}
theorem BookN.box_ne (h : BookN G L nk nt nw ni nl ws r b O) : L ≠ nk ∧ L ≠ nt ∧ L ≠ nw ∧ L ≠ ni ∧ L ≠ nl ∧ ∀ s, b.wrote.getD s [] ≠ [] → r s ≠ L := by
  have k1 := h.box
  have k2 := h.keys
  have k3 := h.types
  have k4 := h.wr
  have k5 := h.incs
  have k6 := h.last
  refine ⟨?_, ?_, ?_, ?_, ?_, fun s hs => ?_⟩
  · rintro rfl; rw [k1] at k2; cases k2
  · rintro rfl; rw [k1] at k3; cases k3
  · rintro rfl; rw [k1] at k4; cases k4
  · rintro rfl; rw [k1] at k5; cases k5
  · rintro rfl; rw [k1] at k6; cases k6
  · obtain ⟨_, hr, _⟩ := h.w1 s hs
    intro e
    rw [e, k1] at hr
    cases hr
theorem BookN.push {n nk' nt' nw' ni' nl' : Nat} {c : CallD} (h : BookN G L nk nt nw ni nl ws r b O) (hw : b.Wf n) (h1 : ¬ O nk') (h2 : ¬ O nt') (h3 : ¬ O nw') (h4 : ¬ O ni') (h5 : ¬ O nl')
    (hne : nk' ≠ nt' ∧ nk' ≠ nw' ∧ nk' ≠ ni' ∧ nk' ≠ nl' ∧ nt' ≠ nw' ∧ nt' ≠ ni' ∧ nt' ≠ nl' ∧ nw' ≠ ni' ∧ nw' ≠ nl' ∧ ni' ≠ nl')
    (e1 : G' L = some (.box [.ms nk' 1 0 (b.keys.length + 1), .ms nt' 1 0 (b.types.length + 1), .ms nw' 1 0 (b.wrote.length + 1), .ms ni' 1 0 (b.incs.length + 1), .ms nl' 1 0 (b.incs.length + 1)]))
    (e2 : G' nk' = some (.row 1 ((b.keys.map fun s => .d (.str s)) ++ [.d (.str c.key)]))) (e3 : G' nt' = some (.row 1 ((b.types.map fun s => .d (.int .i64 s)) ++ [.d (.int .i64 (tyOf c.kind))])))
    (e4 : G' nw' = some (.row 1 (ws ++ [.d .nil]))) (e5 : G' ni' = some (.row 1 ((b.incs.map fun l => .d (.int .i64 l.length)) ++ [.d (.int .i64 0)]))) (e6 : G' nl' = some (.row 1 ((b.incs.map fun l => .d (.int .i64 (lastD l))) ++ [.d (.int .i64 (-1))])))
    (old : ∀ m k, m ≠ L → m ≠ nk → m ≠ nt → m ≠ nw → m ≠ ni → m ≠ nl → O m → G m = some k → G' m = some k) : BookAt G' L (b.push c) (fun m => O m ∨ m = nk' ∨ m = nt' ∨ m = nw' ∨ m = ni' ∨ m = nl') := by
  obtain ⟨q1, q2, q3, q4, q5, q6⟩ := h.box_ne
  have hwl := h.wlen
  refine ⟨nk', nt', nw', ni', nl', ws ++ [.d .nil], r, by rw [e1]; simp [Bk.push], by rw [e2]; simp [Bk.push], by rw [e3]; simp [Bk.push], e4, by rw [e5]; simp [Bk.push], by rw [e6]; simp [Bk.push, lastD], by simp [Bk.push, hwl], fun k hk he => ?_, fun k hk => ?_, fun s s' hs hs' => ?_, .inl h.oL, by simp, by simp, by simp, by simp, by simp, hne⟩
  · simp only [Bk.push, getD_push] at he
    rcases Nat.lt_or_ge k ws.length with hl | hl
    · rw [List.getElem?_append_left hl]; exact h.w0 k hl he
    · obtain rfl : k = ws.length := by simp at hk; omega
      simp
  · simp only [Bk.push, getD_push] at hk ⊢
    obtain ⟨a1, a2, a3, a4, a5, a6, a7, a8⟩ := h.w1 k hk
    have hl : k < ws.length := (List.getElem?_eq_some_iff.1 a1).1
    exact ⟨by rw [List.getElem?_append_left hl]; exact a1, old _ _ (q6 k hk) a4 a5 a6 a7 a8 a3 a2, .inl a3, fun e => h1 (e ▸ a3), fun e => h2 (e ▸ a3), fun e => h3 (e ▸ a3), fun e => h4 (e ▸ a3), fun e => h5 (e ▸ a3)⟩
  · simp only [Bk.push, getD_push] at hs hs'; exact h.rinj s s' hs hs'
theorem BookN.wrote {n k nr : Nat} {x : Int} (h : BookN G L nk nt nw ni nl ws r b O) (hw : b.Wf n) (hk : k < b.wrote.length) (hnr : ¬ O nr)
    (e1 : G' nw = some (.row 1 (ws.set k (.ms nr 1 0 ((b.wrote.getD k []).length + 1))))) (e2 : G' nr = some (.row 1 (((b.wrote.getD k []).map fun t => .d (.int .i64 t)) ++ [.d (.int .i64 x)])))
    (old : ∀ m q, m ≠ nw → (b.wrote.getD k [] ≠ [] → m ≠ r k) → O m → G m = some q → G' m = some q) :
    BookAt G' L { b with wrote := b.wrote.set k (b.wrote.getD k [] ++ [x]) } (fun m => O m ∨ m = nr) := by
  obtain ⟨q1, q2, q3, q4, q5, q6⟩ := h.box_ne
  obtain ⟨a1, a2, a3, a4, a5, a6, a7, a8, a9, a10⟩ := h.ne
  have hwl := h.wlen
  refine ⟨nk, nt, nw, ni, nl, _, fun s => if s = k then nr else r s, ?_, ?_, ?_, e1, ?_, ?_, by simp [hwl], fun j hj he => ?_, fun j hj => ?_, fun s s' hs hs' => ?_, .inl h.oL, .inl h.ok, .inl h.ot, .inl h.ow, .inl h.oi, .inl h.ol, h.ne⟩
  · rw [old _ _ q3 (fun hs e => q6 _ hs e.symm) h.oL h.box]; simp
  · exact old _ _ a2 (fun hs e => (h.w1 _ hs).2.2.2.1 e.symm) h.ok h.keys
  · exact old _ _ a5 (fun hs e => (h.w1 _ hs).2.2.2.2.1 e.symm) h.ot h.types
  · exact old _ _ (Ne.symm a8) (fun hs e => (h.w1 _ hs).2.2.2.2.2.2.1 e.symm) h.oi h.incs
  · exact old _ _ (Ne.symm a9) (fun hs e => (h.w1 _ hs).2.2.2.2.2.2.2 e.symm) h.ol h.last
  · simp only [getD_set, hk, and_true] at he
    by_cases e : j = k
    · rw [if_pos e] at he; simp at he
    · rw [if_neg e] at he
      rw [List.getElem?_set, if_neg (fun e' => e e'.symm)]
      exact h.w0 j (by simpa using hj) he
  · simp only [getD_set, hk, and_true] at hj ⊢
    by_cases e : j = k
    · simp only [if_pos e]
      refine ⟨by rw [e, List.getElem?_set]; simp [hwl, hk], by rw [e2]; simp, by simp, fun e => hnr (e ▸ h.ok), fun e => hnr (e ▸ h.ot), fun e => hnr (e ▸ h.ow), fun e => hnr (e ▸ h.oi), fun e => hnr (e ▸ h.ol)⟩
    · rw [if_neg e] at hj
      simp only [if_neg e]
      obtain ⟨b1, b2, b3, b4, b5, b6, b7, b8⟩ := h.w1 j hj
      exact ⟨by rw [List.getElem?_set, if_neg (fun e' => e e'.symm)]; exact b1, old _ _ b6 (fun hs e' => e (h.rinj _ _ hj hs e')) b3 b2, .inl b3, b4, b5, b6, b7, b8⟩
  · simp only [getD_set, hk, and_true] at hs hs'
    by_cases e : s = k
    · by_cases e' : s' = k
      · intro _; rw [e, e']
      · rw [if_neg e'] at hs'
        simp only [if_pos e, if_neg e']
        intro he
        exact absurd (h.w1 s' hs').2.2.1 (he ▸ hnr)
    · rw [if_neg e] at hs
      by_cases e' : s' = k
      · simp only [if_pos e', if_neg e]
        intro he
        exact absurd (h.w1 s hs).2.2.1 (he ▸ hnr)
      · rw [if_neg e'] at hs'
        simp only [if_neg e', if_neg e]
        exact h.rinj s s' hs hs'
theorem BookN.inc {n k : Nat} {x : Int} (h : BookN G L nk nt nw ni nl ws r b O) (hw : b.Wf n)
    (e1 : G' ni = some (.row 1 ((b.incs.map fun l => V.d (.int .i64 l.length)).set k (.d (.int .i64 ((b.incs.getD k []).length + 1))))))
    (e2 : G' nl = some (.row 1 ((b.incs.map fun l => V.d (.int .i64 (lastD l))).set k (.d (.int .i64 x)))))
    (old : ∀ m q, m ≠ ni → m ≠ nl → O m → G m = some q → G' m = some q) :
    BookAt G' L { b with incs := b.incs.set k (b.incs.getD k [] ++ [x]) } O := by
  obtain ⟨q1, q2, q3, q4, q5, q6⟩ := h.box_ne
  obtain ⟨a1, a2, a3, a4, a5, a6, a7, a8, a9, a10⟩ := h.ne
  refine ⟨nk, nt, nw, ni, nl, ws, r, ?_, ?_, ?_, ?_, ?_, ?_, h.wlen, h.w0, fun j hj => ?_, h.rinj, h.oL, h.ok, h.ot, h.ow, h.oi, h.ol, h.ne⟩
  · rw [old _ _ q4 q5 h.oL h.box]; simp
  · exact old _ _ a3 a4 h.ok h.keys
  · exact old _ _ a6 a7 h.ot h.types
  · exact old _ _ a8 a9 h.ow h.wr
  · rw [e1, List.map_set]; simp
  · rw [e2, List.map_set]; simp [lastD]
  · obtain ⟨b1, b2, b3, b4, b5, b6, b7, b8⟩ := h.w1 j hj
    exact ⟨b1, old _ _ b7 b8 b3 b2, b3, b4, b5, b6, b7, b8⟩
end
end Go.Proofs.Ytjjmedgibcffhaa
