/- index.(*ledger).enter. -/
import Derived.Test.YtjjmedgibcffhaaRMd
import Derived.Test.YtjjmedgibcffhaaROp2
import Derived.Test.YtjjmedgibcffhaaRIx4
namespace Go.Proofs.Ytjjmedgibcffhaa
open Go.RowKit M
set_option linter.unusedSimpArgs false
set_option linter.unusedVariables false
/-- What entering a call leaves. -/
def EntP (At : (Nat → Option Blk) → Nat → Bk → (Nat → Prop) → Prop) (n0 : Nat) (H : Nat → Option Blk) (L : Nat) (O : Nat → Prop) (res : Except Int Bk) (r : V) (S' : St) : Prop :=
  n0 ≤ S'.next ∧ (∀ m k, ¬ O m → H m = some k → S'.get m = some k) ∧ match res with
    | .error e => r = .d (.int .i64 e) ∧ e ≠ 0
    | .ok b' => r = .d (.int .i64 0) ∧ ∃ O', (∀ m, O' m → (O m ∨ n0 ≤ m) ∧ m < S'.next) ∧ At S'.get L b' O'
set_option maxHeartbeats 8000000 in
theorem enter48 (b : Bk) (n : Nat) (hw : b.Wf n) (c : CallD) (hk1 : 1 ≤ c.kind) (hk8 : c.kind ≤ 8) (who : Int) (L : Nat) (O : Nat → Prop) (S : St) (hL : LedAt S.get L b O) (hO : ∀ m, O m → m < S.next) :
    CallM Try.prog 48 [.ptr L 0, .d (encCall c), .d (.int .i64 who)] S fun r S' => EntP LedAt S.next S.get L O (enterB b c who) r S' := by
  refine CallM.start (n := 144) Try.func48 rfl rfl (by simp) (by simp only [argL, Nat.reduceAdd] <;> rfl) ?_
  intro hH
  obtain ⟨H, hHe⟩ : ∃ H, H = S.get := ⟨_, rfl⟩
  obtain ⟨n0, hne⟩ : ∃ n0, n0 = S.next := ⟨_, rfl⟩
  rw [← hHe, ← hne] at hH ⊢
  rw [← hHe] at hL
  rw [← hne] at hO
  obtain ⟨nk, na, nt, nf, ni, am, fm, im, r, hN⟩ := hL
  obtain ⟨q1, q2, q3, q4, q5, q6, q7, q8, q9, q10, q11, q12, q13, q14⟩ := hN.ne
  have hkt := hN.hkt
  have hai := hN.hai
  have gL : L < n0 := hO _ hN.oL
  have gk : nk < n0 := hO _ hN.ok
  have ga : na < n0 := hO _ hN.oa
  have gt : nt < n0 := hO _ hN.ot
  have gf : nf < n0 := hO _ hN.of_
  have gi : ni < n0 := hO _ hN.oi
  have k1 := hN.box
  have k2 := hN.gat
  have k3 := hN.at_ c.key
  obtain ⟨v7, hv7⟩ : ∃ v, (am (.str c.key)).getD (.d (.int .i64 0)) = v := ⟨_, rfl⟩
  obtain ⟨kn, hkn⟩ : ∃ v, (am (.str c.key)).isSome = v := ⟨_, rfl⟩
  ((repeat refine WpM.seq ?_); have z_ex := (And.intro @encCall.eq_1 True.intro); refine WpM.regPE [] [(0, _), (2, _), (4, _)] (by (refine s_b [(1, _)] ?_; refine s_m [] ?_; exact wpS_nil ⟨rfl, rfl⟩)) z_su ?_; clear z_ex)
  ((repeat refine WpM.seq ?_); have z_ex := (And.intro @k1 (And.intro @k2 (And.intro @hv7 (And.intro @hkn True.intro)))); refine WpM.drwPE [] [(0, _), (2, _), (4, _), (7, _), (8, _)] mixed (by kernel_rfl) (by kernel_rfl) [] (by kernel_rfl) (by (refine d_m [(0, _)] ?_; refine d_m [(14, _)] ?_; refine d_f [(15, _)] ?_; refine d_l [(16, _)] ?_; refine d_f [(4, _)] ?_; refine d_l [(18, _)] ?_; refine d_p [(17, _), (19, _)] ?_; refine d_m [(20, _)] ?_; refine d_x [(13, _)] ?_; refine d_x [(13, _)] ?_; refine d_m [(21, _)] ?_; refine d_m [(22, _)] ?_; exact d_end z_mt z_sn)) z_su ?_; clear z_ex)
  refine WpM.seq ?_
  refine wpMid (Mid := fun (fr : Fr) (S' : St) => ∃ b1 k O1, addB b c = some (b1, k) ∧ LedAt S'.get L b1 O1 ∧ (∀ m, O1 m → (O m ∨ n0 < m) ∧ m < S'.next) ∧ n0 < S'.next ∧ S'.get n0 = some (.box [.d (.int .i64 c.kind), .d (.str c.key), .d (.int .i64 c.arg), .d (.bool c.got), .d (.sl (c.vals.map (D.int .i64)))]) ∧ (∀ m k, ¬ O m → H m = some k → S'.get m = some k) ∧ FrLe fr (frOf [(0, .ptr L 0), (2, .d (.int .i64 who)), (4, .ptr n0 0), (7, .d (.int .i64 k))])) ?_ ?_
  · cases hf : findN b.keys c.key with
    | none =>
      rw [hf] at k3
      simp only [Option.map_none] at k3
      obtain rfl : kn = false := by rw [← hkn, k3]; rfl
      obtain rfl : v7 = .d (.int .i64 0) := by rw [← hv7, k3]; rfl
      ((repeat refine WpM.seq ?_); have z_ex := True.intro; refine WpM.regPE [] [(0, _), (2, _), (4, _), (7, _), (24, _)] (by (refine s_m [(8, _)] ?_; refine s_u [(23, _)] ?_; exact wpS_nil ⟨rfl, rfl⟩)) z_su ?_; clear z_ex)
      ((repeat refine WpM.seq ?_); refine WpM.condT (by (simp (maxSteps := 2000000) (disch := omega) [go_sem, -List.map_map])) ?_)
      ((repeat refine WpM.seq ?_); have z_ex := (And.intro @k1 True.intro); refine WpM.regPE [] [(0, _), (2, _), (4, _), (30, _)] (by (refine s_m [(0, _)] ?_; refine s_m [(25, _)] ?_; refine s_f [(26, _)] ?_; refine s_l [(27, _)] ?_; refine s_q [(28, _)] ?_; refine s_q [(29, _)] ?_; exact wpS_nil ⟨rfl, rfl⟩)) z_su ?_; clear z_ex)
      by_cases hl : b.keys.length = 32
      · ((repeat refine WpM.seq ?_); refine WpM.condT (by (simp (maxSteps := 2000000) (disch := omega) [go_sem, -List.map_map, hl])) ?_)
        have he : enterB b c who = .error 2 := by simp [enterB, addB, hf, hl]
        rw [he]
        ((repeat refine WpM.seq ?_); have z_ex := True.intro; refine WpM.regPE [] [(6, _)] (by (refine s_m [] ?_; exact wpS_nil ⟨rfl, rfl⟩)) z_su ?_; clear z_ex)
        refine WpM.ret ?_
        refine ⟨.inr rfl, Upd.done ⟨_, (by (simp (maxSteps := 2000000) (disch := omega) [go_sem, -List.map_map, resV, resVs, resV1])), (by show n0 ≤ n0 + _; omega), fun m k _ hk => ?_, rfl, by decide⟩⟩
        have := hH _ _ hk
        (simp (maxSteps := 2000000) (disch := omega) [go_sem, -List.map_map, hk])
      · have hl' : ¬ ((b.keys.length : Int) = 32) := by omega
        ((repeat refine WpM.seq ?_); refine WpM.condF (by (simp (maxSteps := 2000000) (disch := omega) [go_sem, -List.map_map, hl'])) ?_)
        refine WpM.skip ?_
        have hkl := hw.keys
        have ht := typeOf57 c.kind hk1 hk8
        have k4 := hN.keys
        have k5 := hN.types
        have htl := hw.types
        have t1 : (b.keys.map fun s => V.d (.str s)).take b.keys.length = b.keys.map fun s => V.d (.str s) := List.take_of_length_le (by simp)
        have t2 : (b.types.map fun s => V.d (.int .i64 s)).take b.types.length = b.types.map fun s => V.d (.int .i64 s) := List.take_of_length_le (by simp)
        ((repeat refine WpM.seq ?_); have z_ex := (And.intro @k1 True.intro); refine WpM.regPE [] [(0, _), (2, _), (4, _), (7, _)] (by (refine s_m [(0, _)] ?_; refine s_m [(31, _)] ?_; refine s_f [(32, _)] ?_; refine s_l [(33, _)] ?_; refine s_q [(34, _)] ?_; refine s_m [(35, _)] ?_; exact wpS_nil ⟨rfl, rfl⟩)) z_su ?_; clear z_ex)
        ((repeat refine WpM.seq ?_); have z_ex := (And.intro @k1 (And.intro @k2 True.intro)); refine WpM.drwPE [] [(0, _), (2, _), (4, _), (7, _)] mixed (by kernel_rfl) (by kernel_rfl) [] (by kernel_rfl) (by (refine d_m [(0, _)] ?_; refine d_m [(36, _)] ?_; refine d_f [(37, _)] ?_; refine d_l [(38, _)] ?_; refine d_f [(4, _)] ?_; refine d_l [(40, _)] ?_; refine d_m [(7, _)] ?_; refine d_r [(39, _), (41, _), (42, _)] ?_; exact d_end z_mt z_sn)) z_su ?_; clear z_ex)
        ((repeat refine WpM.seq ?_); have z_ex := (And.intro @k1 (And.intro @k4 (And.intro @t1 True.intro))); refine WpM.drwPE [] [(0, _), (2, _), (4, _), (7, _)] mixed (by kernel_rfl) (by kernel_rfl) [(4, 7)] (by kernel_rfl) (by (refine d_m [(0, _)] ?_; refine d_m [(0, _)] ?_; refine d_m [(44, _)] ?_; refine d_f [(45, _)] ?_; refine d_l [(46, _)] ?_; refine d_f [(4, _)] ?_; refine d_l [(48, _)] ?_; refine d_q [(49, _)] ?_; refine d_q [(47, _), (50, _)] ?_; refine d_m [(43, _)] ?_; refine d_f [(52, _)] ?_; refine d_s [(51, _), (53, _)] ?_; exact d_end z_mt z_sn)) z_su ?_; clear z_ex)
        ((repeat refine WpM.seq ?_); have z_ex := (And.intro @k1 (And.intro @k5 (And.intro @t2 True.intro))); refine WpM.drwPE [] [(0, _), (2, _), (4, _), (7, _)] mixed (by kernel_rfl) (by kernel_rfl) [(4, 7), (4, 8)] (by kernel_rfl) (by (refine d_m [(0, _)] ?_; refine d_m [(0, _)] ?_; refine d_m [(55, _)] ?_; refine d_f [(56, _)] ?_; refine d_l [(57, _)] ?_; refine d_f [(4, _)] ?_; refine d_l [(59, _)] ?_; refine d_pure (callOf_eq rfl rfl rfl (mlk_tmp z_lk mlk_nil)) (ht) rfl rfl z_ip rfl z_fp ?_; refine d_q [(61, _)] ?_; refine d_q [(58, _), (62, _)] ?_; refine d_m [(54, _)] ?_; refine d_f [(64, _)] ?_; refine d_s [(63, _), (65, _)] ?_; exact d_end z_mt z_sn)) z_su ?_; clear z_ex)
        have o1 : ¬ O (n0 + 44) := fun h => by have := hO _ h; omega
        have o2 : ¬ O (n0 + 57) := fun h => by have := hO _ h; omega
        refine ⟨b.push c, b.keys.length, fun m => O m ∨ m = n0 + 44 ∨ m = n0 + 57, by simp [addB, hf, hl], hN.push hw hf o1 o2 (by omega) (by (simp (maxSteps := 2000000) (disch := omega) [go_sem, -List.map_map])) (by (simp (maxSteps := 2000000) (disch := omega) [go_sem, -List.map_map])) (by (simp (maxSteps := 2000000) (disch := omega) [go_sem, -List.map_map])) (by (simp (maxSteps := 2000000) (disch := omega) [go_sem, -List.map_map])) (fun m k h1 h2 h3 h4 ho hk => ?_), fun m hm => ?_, ?_, ?_, fun m k ho hk => ?_, FrLe.refl _⟩
        · have := hO _ ho
          (simp (maxSteps := 2000000) (disch := omega) [go_sem, -List.map_map, hk])
        · show _ ∧ m < n0 + 61
          rcases hm with hm | rfl | rfl
          · have := hO _ hm; exact ⟨.inl hm, by omega⟩
          · exact ⟨.inr (by omega), by omega⟩
          · exact ⟨.inr (by omega), by omega⟩
        · show n0 < n0 + 61; omega
        · (simp (maxSteps := 2000000) (disch := omega) [go_sem, -List.map_map])
        · have h1 : m ≠ L := fun e => ho (e ▸ hN.oL)
          have h2 : m ≠ nk := fun e => ho (e ▸ hN.ok)
          have h3 : m ≠ nt := fun e => ho (e ▸ hN.ot)
          have h4 : m ≠ na := fun e => ho (e ▸ hN.oa)
          have := hH _ _ hk
          (simp (maxSteps := 2000000) (disch := omega) [go_sem, -List.map_map, hk])
    | some k =>
      rw [hf] at k3
      simp only [Option.map_some] at k3
      obtain rfl : kn = true := by rw [← hkn, k3]; rfl
      obtain rfl : v7 = .d (.int .i64 k) := by rw [← hv7, k3]; rfl
      ((repeat refine WpM.seq ?_); have z_ex := True.intro; refine WpM.regPE [] [(0, _), (2, _), (4, _), (7, _), (24, _)] (by (refine s_m [(8, _)] ?_; refine s_u [(23, _)] ?_; exact wpS_nil ⟨rfl, rfl⟩)) z_su ?_; clear z_ex)
      ((repeat refine WpM.seq ?_); refine WpM.condF (by (simp (maxSteps := 2000000) (disch := omega) [go_sem, -List.map_map])) ?_)
      refine WpM.skip ?_
      refine ⟨b, k, O, by simp [addB, hf], ?_, fun m hm => ⟨.inl hm, ?_⟩, ?_, ?_, fun m k ho hk => ?_, ?_⟩
      · refine LedAt.same (G := H) ⟨nk, na, nt, nf, ni, am, fm, im, r, hN⟩ fun m k ho hk => ?_
        have := hO _ ho
        (simp (maxSteps := 2000000) (disch := omega) [go_sem, -List.map_map, hk])
      · have := hO _ hm; show m < n0 + _; omega
      · show n0 < n0 + _; omega
      · (simp (maxSteps := 2000000) (disch := omega) [go_sem, -List.map_map])
      · have := hH _ _ hk
        (simp (maxSteps := 2000000) (disch := omega) [go_sem, -List.map_map, hk])
      · exact frLe_frOf (by (simp (maxSteps := 2000000) (disch := omega) [go_sem, -List.map_map]))
  clear hkn hv7 k1 k2 k3 hN q1 q2 q3 q4 q5 q6 q7 q8 q9 q10 q11 q12 q13 q14 hkt hai gL gk ga gt gf gi
  rintro fr S' ⟨b1, k, O1, hadd, ⟨nk, na, nt, nf, ni, am, fm, im, r, hN⟩, hO1, hnx, hc, old, hfr⟩
  refine WpM.less (St.Le.refl _) hfr ?_
  refine WpM.norm ?_
  intro nx G hnx2 hG2 hGk
  rw [← hG2] at hN hc old
  rw [← hnx2] at hnx hO1
  clear hG2 hnx2 hfr
  obtain ⟨hw1, hf1⟩ := addB_wf hw hadd
  have hen : enterB b c who = putB b1 k c who := by simp [enterB, hadd]
  rw [hen]
  clear hen hadd
  obtain ⟨q1, q2, q3, q4, q5, q6, q7, q8, q9, q10, q11, q12, q13, q14⟩ := hN.ne
  have hkt := hN.hkt
  have hai := hN.hai
  have on0 : ¬ O1 n0 := fun h => by
    rcases (hO1 _ h).1 with h' | h'
    · have := hO _ h'; omega
    · omega
  have gL : L < nx := (hO1 _ hN.oL).2
  have gk : nk < nx := (hO1 _ hN.ok).2
  have ga : na < nx := (hO1 _ hN.oa).2
  have gt : nt < nx := (hO1 _ hN.ot).2
  have gf : nf < nx := (hO1 _ hN.of_).2
  have gi : ni < nx := (hO1 _ hN.oi).2
  have nL : n0 ≠ L := fun e => on0 (e ▸ hN.oL)
  have nk0 : n0 ≠ nk := fun e => on0 (e ▸ hN.ok)
  have na0 : n0 ≠ na := fun e => on0 (e ▸ hN.oa)
  have nt0 : n0 ≠ nt := fun e => on0 (e ▸ hN.ot)
  have nf0 : n0 ≠ nf := fun e => on0 (e ▸ hN.of_)
  have ni0 : n0 ≠ ni := fun e => on0 (e ▸ hN.oi)
  have k1 := hN.box
  have k5 := hN.types
  have hkl := findN_lt hf1
  have htl := hw1.types
  have hkt1 : k < b1.types.length := by omega
  obtain ⟨ty, hty0⟩ : ∃ ty, ty = b1.types.getD k 0 := ⟨_, rfl⟩
  have hgt : (b1.types.map fun t => V.d (.int .i64 t))[k]? = some (.d (.int .i64 ty)) := by rw [hty0]; simp [hkt1]
  have ht := typeOf57 c.kind hk1 hk8
  have oldO : ∀ m k, ¬ O m → H m = some k → m < nx ∧ G m = some k ∧ m ≠ n0 := fun m k ho hk => by
    have h1 := old m k ho hk
    have h2 := hGk _ _ h1
    have h3 := hH _ _ hk
    exact ⟨h2, h1, by omega⟩
  ((repeat refine WpM.seq ?_); have z_ex := (And.intro @k1 (And.intro @k5 (And.intro @hgt (And.intro @hkt1 (And.intro @hc True.intro))))); refine WpM.drwPE [] [(0, _), (2, _), (4, _), (76, _)] mixed (by kernel_rfl) (by kernel_rfl) [(3, 9), (6, 9)] (by kernel_rfl) (by (refine d_m [(0, _)] ?_; refine d_m [(66, _)] ?_; refine d_f [(67, _)] ?_; refine d_l [(68, _)] ?_; refine d_m [(7, _)] ?_; refine d_q [(69, _), (70, _)] ?_; refine d_l [(71, _)] ?_; refine d_f [(4, _)] ?_; refine d_l [(73, _)] ?_; refine d_pure (callOf_eq rfl rfl rfl (mlk_tmp z_lk mlk_nil)) (ht) rfl rfl z_ip rfl z_fp ?_; refine d_q [(72, _), (75, _)] ?_; exact d_end z_mt z_sn)) z_su ?_; clear z_ex)
  by_cases hty : ty = tyOf c.kind
  · ((repeat refine WpM.seq ?_); refine WpM.condF (by (simp (maxSteps := 2000000) (disch := omega) [go_sem, -List.map_map, hty])) ?_)
    refine WpM.skip ?_
    ((repeat refine WpM.seq ?_); have z_ex := (And.intro @hc True.intro); refine WpM.regPE [] [(0, _), (2, _), (4, _), (78, _)] (by (refine s_f [(4, _)] ?_; refine s_l [(77, _)] ?_; exact wpS_nil ⟨rfl, rfl⟩)) z_su ?_; clear z_ex)
    ((repeat refine WpM.seq ?_); refine WpM.block ?_)
    have hput : putB b1 k c who = if c.kind = 2 ∨ c.kind = 3 then
        if c.arg ∈ b1.wrote.getD k [] then .error 3 else .ok { b1 with wrote := b1.wrote.set k (b1.wrote.getD k [] ++ [c.arg]) }
      else if c.kind = 4 then
        if 8 < (incNext (b1.incs.getD k []) who).length then .error 51 else .ok { b1 with incs := b1.incs.set k (incNext (b1.incs.getD k []) who) }
      else .ok b1 := by rw [putB, ← hty0, if_neg (by simpa using hty)]
    rw [hput]
    clear hput
    by_cases h23 : c.kind = 2 ∨ c.kind = 3
    · rw [if_pos h23]
      have hfx := hN.fact c.key c.arg
      have hfe : factB b1 c.key c.arg = decide (c.arg ∈ b1.wrote.getD k []) := by rw [factB, hf1]
      rw [hfe] at hfx
      have k6 := hN.gfact
      rcases h23 with h2 | h2
      · ((repeat refine WpM.seq ?_); have z_ex := (And.intro @h2 True.intro); refine WpM.regPE [] [(0, _), (2, _), (4, _), (78, _), (79, _)] (by (refine s_q [(78, _)] ?_; refine s_m [(80, _)] ?_; exact wpS_nil ⟨rfl, rfl⟩)) z_su ?_; clear z_ex)
        ((repeat refine WpM.seq ?_); refine WpM.condT (by (simp (maxSteps := 2000000) (disch := omega) [go_sem, -List.map_map, h2])) ?_)
        refine WpM.skip ?_
        ((repeat refine WpM.seq ?_); refine WpM.condT (by (simp (maxSteps := 2000000) (disch := omega) [go_sem, -List.map_map, h2])) ?_)
        ((repeat refine WpM.seq ?_); have z_ex := (And.intro @hc True.intro); refine WpM.regPE [] [(0, _), (9, _)] (by (refine s_f [(4, _)] ?_; refine s_l [(82, _)] ?_; refine s_f [(4, _)] ?_; refine s_l [(84, _)] ?_; refine s_g [(83, _), (85, _)] ?_; refine s_a [] ?_; refine s_s [(9, _), (86, _)] ?_; exact wpS_nil ⟨rfl, rfl⟩)) z_su ?_; clear z_ex)
        by_cases hin : c.arg ∈ b1.wrote.getD k []
        · rw [if_pos hin]
          simp only [hin, decide_true, if_true] at hfx
          ((repeat refine WpM.seq ?_); have z_ex := (And.intro @k1 (And.intro @k6 (And.intro @hfx True.intro))); refine WpM.drwPE [] [(0, _), (9, _), (11, _)] mixed (by kernel_rfl) (by kernel_rfl) [(3, 9), (4, 9), (5, 9)] (by kernel_rfl) (by (refine d_m [(0, _)] ?_; refine d_m [(88, _)] ?_; refine d_f [(89, _)] ?_; refine d_l [(90, _)] ?_; refine d_l [(9, _)] ?_; refine d_p [(91, _), (92, _)] ?_; refine d_m [(93, _)] ?_; refine d_x [(87, _)] ?_; refine d_x [(87, _)] ?_; refine d_a [] ?_; refine d_s [(10, _), (94, _)] ?_; refine d_m [(95, _)] ?_; exact d_end z_mt z_sn)) z_su ?_; clear z_ex)
          ((repeat refine WpM.seq ?_); have z_ex := True.intro; refine WpM.regPE [] [(0, _), (9, _), (96, _)] (by (refine s_m [(11, _)] ?_; exact wpS_nil ⟨rfl, rfl⟩)) z_su ?_; clear z_ex)
          ((repeat refine WpM.seq ?_); refine WpM.condT (by (simp (maxSteps := 2000000) (disch := omega) [go_sem, -List.map_map])) ?_)
          ((repeat refine WpM.seq ?_); have z_ex := True.intro; refine WpM.regPE [] [(6, _)] (by (refine s_m [] ?_; exact wpS_nil ⟨rfl, rfl⟩)) z_su ?_; clear z_ex)
          refine WpM.ret ?_
          refine ⟨.inr rfl, Upd.done ⟨_, (by (simp (maxSteps := 2000000) (disch := omega) [go_sem, -List.map_map, resV, resVs, resV1])), (by show n0 ≤ nx + _; omega), fun m k ho hk => ?_, rfl, by decide⟩⟩
          obtain ⟨h1, h2, h3⟩ := oldO m k ho hk
          (simp (maxSteps := 2000000) (disch := omega) [go_sem, -List.map_map, h2])
        · rw [if_neg hin]
          simp only [hin, decide_false, Bool.false_eq_true, if_false] at hfx
          ((repeat refine WpM.seq ?_); have z_ex := (And.intro @k1 (And.intro @k6 (And.intro @hfx True.intro))); refine WpM.drwPE [] [(0, _), (9, _), (11, _)] mixed (by kernel_rfl) (by kernel_rfl) [(3, 9), (4, 9), (5, 9)] (by kernel_rfl) (by (refine d_m [(0, _)] ?_; refine d_m [(88, _)] ?_; refine d_f [(89, _)] ?_; refine d_l [(90, _)] ?_; refine d_l [(9, _)] ?_; refine d_p [(91, _), (92, _)] ?_; refine d_m [(93, _)] ?_; refine d_x [(87, _)] ?_; refine d_x [(87, _)] ?_; refine d_a [] ?_; refine d_s [(10, _), (94, _)] ?_; refine d_m [(95, _)] ?_; exact d_end z_mt z_sn)) z_su ?_; clear z_ex)
          ((repeat refine WpM.seq ?_); have z_ex := True.intro; refine WpM.regPE [] [(0, _), (9, _), (96, _)] (by (refine s_m [(11, _)] ?_; exact wpS_nil ⟨rfl, rfl⟩)) z_su ?_; clear z_ex)
          ((repeat refine WpM.seq ?_); refine WpM.condF (by (simp (maxSteps := 2000000) (disch := omega) [go_sem, -List.map_map])) ?_)
          refine WpM.skip ?_
          ((repeat refine WpM.seq ?_); have z_ex := (And.intro @k1 (And.intro @k6 True.intro)); refine WpM.drwPE [] [] mixed (by kernel_rfl) (by kernel_rfl) [] (by kernel_rfl) (by (refine d_m [(0, _)] ?_; refine d_m [(97, _)] ?_; refine d_f [(98, _)] ?_; refine d_l [(99, _)] ?_; refine d_l [(9, _)] ?_; refine d_g [] ?_; refine d_r [(100, _), (101, _), (102, _)] ?_; exact d_end z_mt z_sn)) z_su ?_; clear z_ex)
          ((repeat refine WpM.seq ?_); have z_ex := True.intro; refine WpM.regPE [] [(6, _)] (by (refine s_m [] ?_; exact wpS_nil ⟨rfl, rfl⟩)) z_su ?_; clear z_ex)
          refine WpM.ret ?_
          refine ⟨.inr rfl, Upd.done ⟨_, (by (simp (maxSteps := 2000000) (disch := omega) [go_sem, -List.map_map, resV, resVs, resV1])), (by show n0 ≤ nx + _; omega), fun m k ho hk => ?_, rfl, O1, fun m hm => ⟨(hO1 m hm).1.imp id (fun h => by omega), ?_⟩, hN.wrote hw1 hf1 (by (simp (maxSteps := 2000000) (disch := omega) [go_sem, -List.map_map])) fun m k h1 ho hk => ?_⟩⟩
          · obtain ⟨h1, h2, h3⟩ := oldO m k ho hk
            have h4 : m ≠ nf := fun e => by
              rcases (hO1 _ hN.of_).1 with h | h
              · exact ho (e ▸ h)
              · have := hH _ _ hk; omega
            (simp (maxSteps := 2000000) (disch := omega) [go_sem, -List.map_map, h2])
          · have := (hO1 m hm).2; show m < nx + _; omega
          · have h2 := (hO1 _ ho).2
            have h3 : m ≠ n0 := fun e => on0 (e ▸ ho)
            (simp (maxSteps := 2000000) (disch := omega) [go_sem, -List.map_map, hk])
      · ((repeat refine WpM.seq ?_); have z_ex := (And.intro @h2 True.intro); refine WpM.regPE [] [(0, _), (2, _), (4, _), (78, _), (79, _)] (by (refine s_q [(78, _)] ?_; refine s_m [(80, _)] ?_; exact wpS_nil ⟨rfl, rfl⟩)) z_su ?_; clear z_ex)
        ((repeat refine WpM.seq ?_); refine WpM.condF (by (simp (maxSteps := 2000000) (disch := omega) [go_sem, -List.map_map, h2])) ?_)
        ((repeat refine WpM.seq ?_); have z_ex := (And.intro @h2 True.intro); refine WpM.regPE [] [(0, _), (2, _), (4, _), (78, _), (79, _)] (by (refine s_q [(78, _)] ?_; refine s_m [(81, _)] ?_; exact wpS_nil ⟨rfl, rfl⟩)) z_su ?_; clear z_ex)
        ((repeat refine WpM.seq ?_); refine WpM.condT (by (simp (maxSteps := 2000000) (disch := omega) [go_sem, -List.map_map, h2])) ?_)
        ((repeat refine WpM.seq ?_); have z_ex := (And.intro @hc True.intro); refine WpM.regPE [] [(0, _), (9, _)] (by (refine s_f [(4, _)] ?_; refine s_l [(82, _)] ?_; refine s_f [(4, _)] ?_; refine s_l [(84, _)] ?_; refine s_g [(83, _), (85, _)] ?_; refine s_a [] ?_; refine s_s [(9, _), (86, _)] ?_; exact wpS_nil ⟨rfl, rfl⟩)) z_su ?_; clear z_ex)
        by_cases hin : c.arg ∈ b1.wrote.getD k []
        · rw [if_pos hin]
          simp only [hin, decide_true, if_true] at hfx
          ((repeat refine WpM.seq ?_); have z_ex := (And.intro @k1 (And.intro @k6 (And.intro @hfx True.intro))); refine WpM.drwPE [] [(0, _), (9, _), (11, _)] mixed (by kernel_rfl) (by kernel_rfl) [(3, 9), (4, 9), (5, 9)] (by kernel_rfl) (by (refine d_m [(0, _)] ?_; refine d_m [(88, _)] ?_; refine d_f [(89, _)] ?_; refine d_l [(90, _)] ?_; refine d_l [(9, _)] ?_; refine d_p [(91, _), (92, _)] ?_; refine d_m [(93, _)] ?_; refine d_x [(87, _)] ?_; refine d_x [(87, _)] ?_; refine d_a [] ?_; refine d_s [(10, _), (94, _)] ?_; refine d_m [(95, _)] ?_; exact d_end z_mt z_sn)) z_su ?_; clear z_ex)
          ((repeat refine WpM.seq ?_); have z_ex := True.intro; refine WpM.regPE [] [(0, _), (9, _), (96, _)] (by (refine s_m [(11, _)] ?_; exact wpS_nil ⟨rfl, rfl⟩)) z_su ?_; clear z_ex)
          ((repeat refine WpM.seq ?_); refine WpM.condT (by (simp (maxSteps := 2000000) (disch := omega) [go_sem, -List.map_map])) ?_)
          ((repeat refine WpM.seq ?_); have z_ex := True.intro; refine WpM.regPE [] [(6, _)] (by (refine s_m [] ?_; exact wpS_nil ⟨rfl, rfl⟩)) z_su ?_; clear z_ex)
          refine WpM.ret ?_
          refine ⟨.inr rfl, Upd.done ⟨_, (by (simp (maxSteps := 2000000) (disch := omega) [go_sem, -List.map_map, resV, resVs, resV1])), (by show n0 ≤ nx + _; omega), fun m k ho hk => ?_, rfl, by decide⟩⟩
          obtain ⟨h1, h2, h3⟩ := oldO m k ho hk
          (simp (maxSteps := 2000000) (disch := omega) [go_sem, -List.map_map, h2])
        · rw [if_neg hin]
          simp only [hin, decide_false, Bool.false_eq_true, if_false] at hfx
          ((repeat refine WpM.seq ?_); have z_ex := (And.intro @k1 (And.intro @k6 (And.intro @hfx True.intro))); refine WpM.drwPE [] [(0, _), (9, _), (11, _)] mixed (by kernel_rfl) (by kernel_rfl) [(3, 9), (4, 9), (5, 9)] (by kernel_rfl) (by (refine d_m [(0, _)] ?_; refine d_m [(88, _)] ?_; refine d_f [(89, _)] ?_; refine d_l [(90, _)] ?_; refine d_l [(9, _)] ?_; refine d_p [(91, _), (92, _)] ?_; refine d_m [(93, _)] ?_; refine d_x [(87, _)] ?_; refine d_x [(87, _)] ?_; refine d_a [] ?_; refine d_s [(10, _), (94, _)] ?_; refine d_m [(95, _)] ?_; exact d_end z_mt z_sn)) z_su ?_; clear z_ex)
          ((repeat refine WpM.seq ?_); have z_ex := True.intro; refine WpM.regPE [] [(0, _), (9, _), (96, _)] (by (refine s_m [(11, _)] ?_; exact wpS_nil ⟨rfl, rfl⟩)) z_su ?_; clear z_ex)
          ((repeat refine WpM.seq ?_); refine WpM.condF (by (simp (maxSteps := 2000000) (disch := omega) [go_sem, -List.map_map])) ?_)
          refine WpM.skip ?_
          ((repeat refine WpM.seq ?_); have z_ex := (And.intro @k1 (And.intro @k6 True.intro)); refine WpM.drwPE [] [] mixed (by kernel_rfl) (by kernel_rfl) [] (by kernel_rfl) (by (refine d_m [(0, _)] ?_; refine d_m [(97, _)] ?_; refine d_f [(98, _)] ?_; refine d_l [(99, _)] ?_; refine d_l [(9, _)] ?_; refine d_g [] ?_; refine d_r [(100, _), (101, _), (102, _)] ?_; exact d_end z_mt z_sn)) z_su ?_; clear z_ex)
          ((repeat refine WpM.seq ?_); have z_ex := True.intro; refine WpM.regPE [] [(6, _)] (by (refine s_m [] ?_; exact wpS_nil ⟨rfl, rfl⟩)) z_su ?_; clear z_ex)
          refine WpM.ret ?_
          refine ⟨.inr rfl, Upd.done ⟨_, (by (simp (maxSteps := 2000000) (disch := omega) [go_sem, -List.map_map, resV, resVs, resV1])), (by show n0 ≤ nx + _; omega), fun m k ho hk => ?_, rfl, O1, fun m hm => ⟨(hO1 m hm).1.imp id (fun h => by omega), ?_⟩, hN.wrote hw1 hf1 (by (simp (maxSteps := 2000000) (disch := omega) [go_sem, -List.map_map])) fun m k h1 ho hk => ?_⟩⟩
          · obtain ⟨h1, h2, h3⟩ := oldO m k ho hk
            have h4 : m ≠ nf := fun e => by
              rcases (hO1 _ hN.of_).1 with h | h
              · exact ho (e ▸ h)
              · have := hH _ _ hk; omega
            (simp (maxSteps := 2000000) (disch := omega) [go_sem, -List.map_map, h2])
          · have := (hO1 m hm).2; show m < nx + _; omega
          · have h2 := (hO1 _ ho).2
            have h3 : m ≠ n0 := fun e => on0 (e ▸ ho)
            (simp (maxSteps := 2000000) (disch := omega) [go_sem, -List.map_map, hk])
    · rw [if_neg h23]
      have h2 : ¬ c.kind = 2 := fun h => h23 (.inl h)
      have h3 : ¬ c.kind = 3 := fun h => h23 (.inr h)
      ((repeat refine WpM.seq ?_); have z_ex := (And.intro @h2 True.intro); refine WpM.regPE [] [(0, _), (2, _), (4, _), (78, _), (79, _)] (by (refine s_q [(78, _)] ?_; refine s_m [(80, _)] ?_; exact wpS_nil ⟨rfl, rfl⟩)) z_su ?_; clear z_ex)
      ((repeat refine WpM.seq ?_); refine WpM.condF (by (simp (maxSteps := 2000000) (disch := omega) [go_sem, -List.map_map, h2])) ?_)
      ((repeat refine WpM.seq ?_); have z_ex := (And.intro @h3 True.intro); refine WpM.regPE [] [(0, _), (2, _), (4, _), (78, _), (79, _)] (by (refine s_q [(78, _)] ?_; refine s_m [(81, _)] ?_; exact wpS_nil ⟨rfl, rfl⟩)) z_su ?_; clear z_ex)
      ((repeat refine WpM.seq ?_); refine WpM.condF (by (simp (maxSteps := 2000000) (disch := omega) [go_sem, -List.map_map, h3])) ?_)
      by_cases h4 : c.kind = 4
      · rw [if_pos h4]
        ((repeat refine WpM.seq ?_); have z_ex := (And.intro @h4 True.intro); refine WpM.regPE [] [(0, _), (2, _), (4, _), (103, _)] (by (refine s_q [(78, _)] ?_; refine s_m [(104, _)] ?_; exact wpS_nil ⟨rfl, rfl⟩)) z_su ?_; clear z_ex)
        ((repeat refine WpM.seq ?_); refine WpM.condT (by (simp (maxSteps := 2000000) (disch := omega) [go_sem, -List.map_map, h4])) ?_)
        have hie : incB b1 c.key = b1.incs.getD k [] := by rw [incB, hf1]
        have hil := hw1.ilen k
        have k7 := hN.ginc
        have hi0 := hN.inc0 c.key
        have hi1 := hN.inc1 c.key
        have hr1 := q14 c.key
        obtain ⟨l, hl⟩ : ∃ l, l = b1.incs.getD k [] := ⟨_, rfl⟩
        rw [hie] at hi0 hi1 hr1
        rw [← hl] at hi0 hi1 hil hr1 ⊢
        cases hcl : l.getLast? with
        | none =>
          obtain rfl : l = [] := by simpa using hcl
          have k8 := hi0 rfl
          have hinc : incNext [] who = b1.incs.getD k [] ++ [who] := by rw [← hl]; simp [incNext]
          rw [hinc, if_neg (by rw [← hl]; simp)]
          ((repeat refine WpM.seq ?_); have z_ex := (And.intro @hc (And.intro @k1 (And.intro @k7 (And.intro @k8 True.intro)))); refine WpM.drwPE [] [(0, _), (2, _), (4, _), (12, _)] mixed (by kernel_rfl) (by kernel_rfl) [] (by kernel_rfl) (by (refine d_m [(0, _)] ?_; refine d_m [(105, _)] ?_; refine d_f [(106, _)] ?_; refine d_l [(107, _)] ?_; refine d_f [(4, _)] ?_; refine d_l [(109, _)] ?_; refine d_p [(108, _), (110, _)] ?_; refine d_m [(111, _)] ?_; exact d_end z_mt z_sn)) z_su ?_; clear z_ex)
          ((repeat refine WpM.seq ?_); have z_ex := True.intro; refine WpM.regPE [] [(0, _), (2, _), (4, _), (12, _), (124, _)] (by (refine s_m [(12, _)] ?_; refine s_q [(112, _)] ?_; refine s_q [(113, _)] ?_; refine s_m [(114, _)] ?_; refine s_wit ?_; intro z_g; (first | refine s_skip rfl z_g z_fp ?_ | (refine s_m [(12, _)] ?_ (hg := z_g))); clear z_g; refine s_wit ?_; intro z_g; (first | refine s_skip rfl z_g z_fp ?_ | (refine s_m [(12, _)] ?_ (hg := z_g))); clear z_g; refine s_wit ?_; intro z_g; (first | refine s_skip rfl z_g z_fp ?_ | (refine s_q [(117, _)] ?_ (hg := z_g))); clear z_g; refine s_wit ?_; intro z_g; (first | refine s_skip rfl z_g z_fp ?_ | (refine s_q [(118, _)] ?_ (hg := z_g))); clear z_g; refine s_wit ?_; intro z_g; (first | refine s_skip rfl z_g z_fp ?_ | (refine s_q [(116, _), (119, _)] ?_ (hg := z_g))); clear z_g; refine s_wit ?_; intro z_g; (first | refine s_skip rfl z_g z_fp ?_ | (refine s_l [(120, _)] ?_ (hg := z_g))); clear z_g; refine s_wit ?_; intro z_g; (first | refine s_skip rfl z_g z_fp ?_ | (refine s_m [(2, _)] ?_ (hg := z_g))); clear z_g; refine s_wit ?_; intro z_g; (first | refine s_skip rfl z_g z_fp ?_ | (refine s_q [(121, _), (122, _)] ?_ (hg := z_g))); clear z_g; refine s_m [(115, _), (123, _)] ?_; exact wpS_nil ⟨rfl, rfl⟩)) z_su ?_; clear z_ex)
          ((repeat refine WpM.seq ?_); refine WpM.condT (by (simp (maxSteps := 2000000) (disch := omega) [go_sem, -List.map_map])) ?_)
          ((repeat refine WpM.seq ?_); have z_ex := (And.intro @hc (And.intro @k1 (And.intro @k7 True.intro))); refine WpM.drwPE [] [(0, _), (4, _)] mixed (by kernel_rfl) (by kernel_rfl) [(3, 8), (5, 8), (3, 9), (5, 9)] (by kernel_rfl) (by (refine d_m [(0, _)] ?_; refine d_m [(125, _)] ?_; refine d_f [(126, _)] ?_; refine d_l [(127, _)] ?_; refine d_f [(4, _)] ?_; refine d_l [(129, _)] ?_; refine d_m [(12, _)] ?_; refine d_m [(2, _)] ?_; refine d_q [(132, _)] ?_; refine d_q [(131, _), (133, _)] ?_; refine d_r [(128, _), (130, _), (134, _)] ?_; exact d_end z_mt z_sn)) z_su ?_; clear z_ex)
          ((repeat refine WpM.seq ?_); have z_ex := (And.intro @hc (And.intro @k1 (And.intro @updD_same True.intro))); refine WpM.drwPE [] [(143, _)] mixed (by kernel_rfl) (by kernel_rfl) [] (by kernel_rfl) (by (refine d_m [(0, _)] ?_; refine d_m [(135, _)] ?_; refine d_f [(136, _)] ?_; refine d_l [(137, _)] ?_; refine d_f [(4, _)] ?_; refine d_l [(139, _)] ?_; refine d_p [(138, _), (140, _)] ?_; refine d_q [(141, _)] ?_; refine d_q [(142, _)] ?_; exact d_end z_mt z_sn)) z_su ?_; clear z_ex)
          ((repeat refine WpM.seq ?_); refine WpM.condF (by (simp (maxSteps := 2000000) (disch := omega) [go_sem, -List.map_map])) ?_)
          refine WpM.skip ?_
          ((repeat refine WpM.seq ?_); have z_ex := True.intro; refine WpM.regPE [] [(6, _)] (by (refine s_m [] ?_; exact wpS_nil ⟨rfl, rfl⟩)) z_su ?_; clear z_ex)
          refine WpM.ret ?_
          refine ⟨.inr rfl, Upd.done ⟨_, (by (simp (maxSteps := 2000000) (disch := omega) [go_sem, -List.map_map, resV, resVs, resV1])), (by show n0 ≤ nx + _; omega), fun m k ho hk => ?_, rfl, _, fun m hm => ?_, LedN.inc (nr := nx + 41) hN hw1 hf1 (fun h => by have := (hO1 _ h).2; omega) (by rw [← hl]; (simp (maxSteps := 2000000) (disch := omega) [go_sem, -List.map_map])) (by rw [← hl]; (simp (maxSteps := 2000000) (disch := omega) [go_sem, -List.map_map])) fun m k h1 h2 ho hk => ?_⟩⟩
          · obtain ⟨h1, h2, h3⟩ := oldO m k ho hk
            have on := fun m (h : O1 m) => (hO1 m h).1
            have h4 : m ≠ ni := fun e => by
              rcases on _ hN.oi with h | h
              · exact ho (e ▸ h)
              · have := hH _ _ hk; omega
            (simp (maxSteps := 2000000) (disch := omega) [go_sem, -List.map_map, h2])
          · rcases hm with hm | rfl
            · have := hO1 m hm; exact ⟨this.1.imp id (fun h => by omega), by show m < nx + _; omega⟩
            · exact ⟨.inr (by omega), by show _ < nx + _; omega⟩
          · have h3 := (hO1 _ ho).2
            have h4 : m ≠ n0 := fun e => on0 (e ▸ ho)
            (simp (maxSteps := 2000000) (disch := omega) [go_sem, -List.map_map, hk])
        | some x =>
          obtain ⟨l0, rfl⟩ : ∃ l0, l = l0 ++ [x] := by
            have hne : l ≠ [] := by rintro rfl; cases hcl
            refine ⟨l.dropLast, ?_⟩
            rw [List.getLast?_eq_some_getLast hne] at hcl
            injection hcl with hcl
            rw [← hcl, List.dropLast_concat_getLast hne]
          have hne : l0 ++ [x] ≠ [] := by simp
          obtain ⟨k8, k9, _, r1, r2⟩ := hi1 hne
          obtain ⟨r3, r4, r5, r6⟩ := hr1 hne
          have gr : r c.key < nx := (hO1 _ (hi1 hne).2.2.1).2
          have hr0 : n0 ≠ r c.key := fun e => on0 (e ▸ (hi1 hne).2.2.1)
          obtain ⟨len, hlen⟩ : ∃ len, len = l0.length := ⟨_, rfl⟩
          have hlx : (l0 ++ [x]).length = len + 1 := by simp [hlen]
          have hget : ((l0 ++ [x]).map fun t => V.d (.int .i64 t))[len]? = some (.d (.int .i64 x)) := by simp [hlen]
          obtain ⟨xs, hxs⟩ : ∃ xs, xs = (l0 ++ [x]).map fun t => V.d (.int .i64 t) := ⟨_, rfl⟩
          have hxl : xs.length = len + 1 := by rw [hxs]; simp [hlen]
          have htk : xs.take (len + 1) = xs := List.take_of_length_le (by omega)
          rw [← hxs] at hget k9
          rw [hlx] at k8 hil
          have hidx : (len : Int) + 1 - 1 = len := by omega
          have hz : ¬ ((len : Int) + 1 = 0) := by omega
          ((repeat refine WpM.seq ?_); have z_ex := (And.intro @hc (And.intro @k1 (And.intro @k7 (And.intro @k8 True.intro)))); refine WpM.drwPE [] [(0, _), (2, _), (4, _), (12, _)] mixed (by kernel_rfl) (by kernel_rfl) [] (by kernel_rfl) (by (refine d_m [(0, _)] ?_; refine d_m [(105, _)] ?_; refine d_f [(106, _)] ?_; refine d_l [(107, _)] ?_; refine d_f [(4, _)] ?_; refine d_l [(109, _)] ?_; refine d_p [(108, _), (110, _)] ?_; refine d_m [(111, _)] ?_; exact d_end z_mt z_sn)) z_su ?_; clear z_ex)
          by_cases hxw : x = who
          · have hinc : incNext (l0 ++ [x]) who = l0 ++ [x] := by rw [incNext, hcl, if_pos (by rw [hxw])]
            rw [hinc, hlx, if_neg (by omega), hl, set_self]
            ((repeat refine WpM.seq ?_); have z_ex := (And.intro @k9 (And.intro @hget (And.intro @hidx (And.intro @hxl (And.intro @wrap_id (And.intro @hxw (And.intro @hz True.intro))))))); refine WpM.regPE [] [(0, _), (2, _), (4, _), (12, _), (124, _)] (by (refine s_m [(12, _)] ?_; refine s_q [(112, _)] ?_; refine s_q [(113, _)] ?_; refine s_m [(114, _)] ?_; refine s_wit ?_; intro z_g; (first | refine s_skip rfl z_g z_fp ?_ | (refine s_m [(12, _)] ?_ (hg := z_g))); clear z_g; refine s_wit ?_; intro z_g; (first | refine s_skip rfl z_g z_fp ?_ | (refine s_m [(12, _)] ?_ (hg := z_g))); clear z_g; refine s_wit ?_; intro z_g; (first | refine s_skip rfl z_g z_fp ?_ | (refine s_q [(117, _)] ?_ (hg := z_g))); clear z_g; refine s_wit ?_; intro z_g; (first | refine s_skip rfl z_g z_fp ?_ | (refine s_q [(118, _)] ?_ (hg := z_g))); clear z_g; refine s_wit ?_; intro z_g; (first | refine s_skip rfl z_g z_fp ?_ | (refine s_q [(116, _), (119, _)] ?_ (hg := z_g))); clear z_g; refine s_wit ?_; intro z_g; (first | refine s_skip rfl z_g z_fp ?_ | (refine s_l [(120, _)] ?_ (hg := z_g))); clear z_g; refine s_wit ?_; intro z_g; (first | refine s_skip rfl z_g z_fp ?_ | (refine s_m [(2, _)] ?_ (hg := z_g))); clear z_g; refine s_wit ?_; intro z_g; (first | refine s_skip rfl z_g z_fp ?_ | (refine s_q [(121, _), (122, _)] ?_ (hg := z_g))); clear z_g; refine s_m [(115, _), (123, _)] ?_; exact wpS_nil ⟨rfl, rfl⟩)) z_su ?_; clear z_ex)
            ((repeat refine WpM.seq ?_); refine WpM.condF (by (simp (maxSteps := 2000000) (disch := omega) [go_sem, -List.map_map, hxw])) ?_)
            refine WpM.skip ?_
            ((repeat refine WpM.seq ?_); have z_ex := (And.intro @hc (And.intro @k1 (And.intro @k7 (And.intro @k8 True.intro)))); refine WpM.drwPE [] [(143, _)] mixed (by kernel_rfl) (by kernel_rfl) [] (by kernel_rfl) (by (refine d_m [(0, _)] ?_; refine d_m [(135, _)] ?_; refine d_f [(136, _)] ?_; refine d_l [(137, _)] ?_; refine d_f [(4, _)] ?_; refine d_l [(139, _)] ?_; refine d_p [(138, _), (140, _)] ?_; refine d_q [(141, _)] ?_; refine d_q [(142, _)] ?_; exact d_end z_mt z_sn)) z_su ?_; clear z_ex)
            have hil' : (len : Int) + 1 ≤ 8 := by omega
            ((repeat refine WpM.seq ?_); refine WpM.condF (by (simp (maxSteps := 2000000) (disch := omega) [go_sem, -List.map_map, hil'])) ?_)
            refine WpM.skip ?_
            ((repeat refine WpM.seq ?_); have z_ex := True.intro; refine WpM.regPE [] [(6, _)] (by (refine s_m [] ?_; exact wpS_nil ⟨rfl, rfl⟩)) z_su ?_; clear z_ex)
            refine WpM.ret ?_
            refine ⟨.inr rfl, Upd.done ⟨_, (by (simp (maxSteps := 2000000) (disch := omega) [go_sem, -List.map_map, resV, resVs, resV1])), (by show n0 ≤ nx + _; omega), fun m k ho hk => ?_, rfl, O1, fun m hm => ⟨(hO1 m hm).1.imp id (fun h => by omega), ?_⟩, LedAt.same (G := G) ⟨nk, na, nt, nf, ni, am, fm, im, r, hN⟩ fun m k ho hk => ?_⟩⟩
            · obtain ⟨h1, h2, h3⟩ := oldO m k ho hk
              (simp (maxSteps := 2000000) (disch := omega) [go_sem, -List.map_map, h2])
            · have := (hO1 m hm).2; show m < nx + _; omega
            · have h2 := (hO1 _ ho).2
              (simp (maxSteps := 2000000) (disch := omega) [go_sem, -List.map_map, hk])
          · have hinc : incNext (l0 ++ [x]) who = b1.incs.getD k [] ++ [who] := by rw [incNext, hcl, if_neg (by simpa using hxw), ← hl]
            have hill : (b1.incs.getD k [] ++ [who]).length = len + 2 := by rw [← hl]; simp [hlen]
            rw [hinc, hill]
            ((repeat refine WpM.seq ?_); have z_ex := (And.intro @k9 (And.intro @hget (And.intro @hidx (And.intro @hxl (And.intro @wrap_id (And.intro @hxw (And.intro @hz True.intro))))))); refine WpM.regPE [] [(0, _), (2, _), (4, _), (12, _), (124, _)] (by (refine s_m [(12, _)] ?_; refine s_q [(112, _)] ?_; refine s_q [(113, _)] ?_; refine s_m [(114, _)] ?_; refine s_wit ?_; intro z_g; (first | refine s_skip rfl z_g z_fp ?_ | (refine s_m [(12, _)] ?_ (hg := z_g))); clear z_g; refine s_wit ?_; intro z_g; (first | refine s_skip rfl z_g z_fp ?_ | (refine s_m [(12, _)] ?_ (hg := z_g))); clear z_g; refine s_wit ?_; intro z_g; (first | refine s_skip rfl z_g z_fp ?_ | (refine s_q [(117, _)] ?_ (hg := z_g))); clear z_g; refine s_wit ?_; intro z_g; (first | refine s_skip rfl z_g z_fp ?_ | (refine s_q [(118, _)] ?_ (hg := z_g))); clear z_g; refine s_wit ?_; intro z_g; (first | refine s_skip rfl z_g z_fp ?_ | (refine s_q [(116, _), (119, _)] ?_ (hg := z_g))); clear z_g; refine s_wit ?_; intro z_g; (first | refine s_skip rfl z_g z_fp ?_ | (refine s_l [(120, _)] ?_ (hg := z_g))); clear z_g; refine s_wit ?_; intro z_g; (first | refine s_skip rfl z_g z_fp ?_ | (refine s_m [(2, _)] ?_ (hg := z_g))); clear z_g; refine s_wit ?_; intro z_g; (first | refine s_skip rfl z_g z_fp ?_ | (refine s_q [(121, _), (122, _)] ?_ (hg := z_g))); clear z_g; refine s_m [(115, _), (123, _)] ?_; exact wpS_nil ⟨rfl, rfl⟩)) z_su ?_; clear z_ex)
            ((repeat refine WpM.seq ?_); refine WpM.condT (by (simp (maxSteps := 2000000) (disch := omega) [go_sem, -List.map_map, hxw])) ?_)
            ((repeat refine WpM.seq ?_); have z_ex := (And.intro @hc (And.intro @k1 (And.intro @k7 (And.intro @k9 (And.intro @hxl (And.intro @htk True.intro)))))); refine WpM.drwPE [] [(0, _), (4, _)] mixed (by kernel_rfl) (by kernel_rfl) [(3, 8), (5, 8), (3, 9), (5, 9)] (by kernel_rfl) (by (refine d_m [(0, _)] ?_; refine d_m [(125, _)] ?_; refine d_f [(126, _)] ?_; refine d_l [(127, _)] ?_; refine d_f [(4, _)] ?_; refine d_l [(129, _)] ?_; refine d_m [(12, _)] ?_; refine d_m [(2, _)] ?_; refine d_q [(132, _)] ?_; refine d_q [(131, _), (133, _)] ?_; refine d_r [(128, _), (130, _), (134, _)] ?_; exact d_end z_mt z_sn)) z_su ?_; clear z_ex)
            ((repeat refine WpM.seq ?_); have z_ex := (And.intro @hc (And.intro @k1 (And.intro @updD_same True.intro))); refine WpM.drwPE [] [(143, _)] mixed (by kernel_rfl) (by kernel_rfl) [] (by kernel_rfl) (by (refine d_m [(0, _)] ?_; refine d_m [(135, _)] ?_; refine d_f [(136, _)] ?_; refine d_l [(137, _)] ?_; refine d_f [(4, _)] ?_; refine d_l [(139, _)] ?_; refine d_p [(138, _), (140, _)] ?_; refine d_q [(141, _)] ?_; refine d_q [(142, _)] ?_; exact d_end z_mt z_sn)) z_su ?_; clear z_ex)
            by_cases h8 : 8 < len + 2
            · rw [if_pos h8]
              have h8' : (8 : Int) < len + 2 := by omega
              ((repeat refine WpM.seq ?_); refine WpM.condT (by (simp (maxSteps := 2000000) (disch := omega) [go_sem, -List.map_map, h8'])) ?_)
              ((repeat refine WpM.seq ?_); have z_ex := True.intro; refine WpM.regPE [] [(6, _)] (by (refine s_m [] ?_; exact wpS_nil ⟨rfl, rfl⟩)) z_su ?_; clear z_ex)
              refine WpM.ret ?_
              refine ⟨.inr rfl, Upd.done ⟨_, (by (simp (maxSteps := 2000000) (disch := omega) [go_sem, -List.map_map, resV, resVs, resV1])), (by show n0 ≤ nx + _; omega), fun m k ho hk => ?_, rfl, by decide⟩⟩
              obtain ⟨h1, h2, h3⟩ := oldO m k ho hk
              have on := fun m (h : O1 m) => (hO1 m h).1
              have h5 : m ≠ r c.key := fun e => by
                rcases on _ (hi1 hne).2.2.1 with h | h
                · exact ho (e ▸ h)
                · have := hH _ _ hk; omega
              have h4 : m ≠ ni := fun e => by
                rcases on _ hN.oi with h | h
                · exact ho (e ▸ h)
                · have := hH _ _ hk; omega
              (simp (maxSteps := 2000000) (disch := omega) [go_sem, -List.map_map, h2])
            · rw [if_neg h8]
              have h8' : (len : Int) + 2 ≤ 8 := by omega
              ((repeat refine WpM.seq ?_); refine WpM.condF (by (simp (maxSteps := 2000000) (disch := omega) [go_sem, -List.map_map, h8'])) ?_)
              refine WpM.skip ?_
              ((repeat refine WpM.seq ?_); have z_ex := True.intro; refine WpM.regPE [] [(6, _)] (by (refine s_m [] ?_; exact wpS_nil ⟨rfl, rfl⟩)) z_su ?_; clear z_ex)
              refine WpM.ret ?_
              refine ⟨.inr rfl, Upd.done ⟨_, (by (simp (maxSteps := 2000000) (disch := omega) [go_sem, -List.map_map, resV, resVs, resV1])), (by show n0 ≤ nx + _; omega), fun m k ho hk => ?_, rfl, _, fun m hm => ?_, LedN.inc (nr := nx + 49) hN hw1 hf1 (fun h => by have := (hO1 _ h).2; omega) (by rw [← hl]; (simp (maxSteps := 2000000) (disch := omega) [go_sem, -List.map_map, hlen])) (by rw [← hl]; (simp (maxSteps := 2000000) (disch := omega) [go_sem, -List.map_map, hxs])) fun m k h1 h2 ho hk => ?_⟩⟩
              · obtain ⟨h1, h2, h3⟩ := oldO m k ho hk
                have on := fun m (h : O1 m) => (hO1 m h).1
                have h5 : m ≠ r c.key := fun e => by
                  rcases on _ (hi1 hne).2.2.1 with h | h
                  · exact ho (e ▸ h)
                  · have := hH _ _ hk; omega
                have h4 : m ≠ ni := fun e => by
                  rcases on _ hN.oi with h | h
                  · exact ho (e ▸ h)
                  · have := hH _ _ hk; omega
                (simp (maxSteps := 2000000) (disch := omega) [go_sem, -List.map_map, h2])
              · rcases hm with hm | rfl
                · have := hO1 m hm; exact ⟨this.1.imp id (fun h => by omega), by show m < nx + _; omega⟩
                · exact ⟨.inr (by omega), by show _ < nx + _; omega⟩
              · have h3 := (hO1 _ ho).2
                have h5 : m ≠ r c.key := h2 (by rw [hie, ← hl]; exact hne)
                have h4 : m ≠ n0 := fun e => on0 (e ▸ ho)
                (simp (maxSteps := 2000000) (disch := omega) [go_sem, -List.map_map, hk])
      · rw [if_neg h4]
        ((repeat refine WpM.seq ?_); have z_ex := (And.intro @h4 True.intro); refine WpM.regPE [] [(0, _), (2, _), (4, _), (103, _)] (by (refine s_q [(78, _)] ?_; refine s_m [(104, _)] ?_; exact wpS_nil ⟨rfl, rfl⟩)) z_su ?_; clear z_ex)
        ((repeat refine WpM.seq ?_); refine WpM.condF (by (simp (maxSteps := 2000000) (disch := omega) [go_sem, -List.map_map, h4])) ?_)
        refine WpM.skip ?_
        ((repeat refine WpM.seq ?_); have z_ex := True.intro; refine WpM.regPE [] [(6, _)] (by (refine s_m [] ?_; exact wpS_nil ⟨rfl, rfl⟩)) z_su ?_; clear z_ex)
        refine WpM.ret ?_
        refine ⟨.inr rfl, Upd.done ⟨_, (by (simp (maxSteps := 2000000) (disch := omega) [go_sem, -List.map_map, resV, resVs, resV1])), (by show n0 ≤ nx + _; omega), fun m k ho hk => ?_, rfl, O1, fun m hm => ⟨(hO1 m hm).1.imp id (fun h => by omega), ?_⟩, LedAt.same (G := G) ⟨nk, na, nt, nf, ni, am, fm, im, r, hN⟩ fun m k ho hk => ?_⟩⟩
        · obtain ⟨h1, h2, h3⟩ := oldO m k ho hk
          (simp (maxSteps := 2000000) (disch := omega) [go_sem, -List.map_map, h2])
        · have := (hO1 m hm).2; show m < nx + _; omega
        · have h2 := (hO1 _ ho).2
          (simp (maxSteps := 2000000) (disch := omega) [go_sem, -List.map_map, hk])
  · ((repeat refine WpM.seq ?_); refine WpM.condT (by (simp (maxSteps := 2000000) (disch := omega) [go_sem, -List.map_map, hty])) ?_)
    have hput : putB b1 k c who = .error 50 := by rw [putB, ← hty0, if_pos hty]
    rw [hput]
    ((repeat refine WpM.seq ?_); have z_ex := True.intro; refine WpM.regPE [] [(6, _)] (by (refine s_m [] ?_; exact wpS_nil ⟨rfl, rfl⟩)) z_su ?_; clear z_ex)
    refine WpM.ret ?_
    refine ⟨.inr rfl, Upd.done ⟨_, (by (simp (maxSteps := 2000000) (disch := omega) [go_sem, -List.map_map, resV, resVs, resV1])), (by show n0 ≤ nx + _; omega), fun m k ho hk => ?_, rfl, by decide⟩⟩
    obtain ⟨h1, h2, h3⟩ := oldO m k ho hk
    (simp (maxSteps := 2000000) (disch := omega) [go_sem, -List.map_map, h2])
end Go.Proofs.Ytjjmedgibcffhaa
