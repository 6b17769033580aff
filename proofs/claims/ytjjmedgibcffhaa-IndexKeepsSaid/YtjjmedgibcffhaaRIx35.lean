/- assizelaw05.IndexKeeps, walked. -/
import Derived.Test.YtjjmedgibcffhaaROp2
import Derived.Test.YtjjmedgibcffhaaRIz
import Derived.Test.YtjjmedgibcffhaaRIx25
import Derived.Test.YtjjmedgibcffhaaRIx21
import Derived.Test.YtjjmedgibcffhaaRIx3
import Derived.Test.YtjjmedgibcffhaaRBrS
import Derived.Test.YtjjmedgibcffhaaRIxBb
namespace Go.Proofs.Ytjjmedgibcffhaa
open Go.RowKit M
set_option linter.unusedSimpArgs false
set_option linter.unusedVariables false
theorem CallM.lt {P : Program} {f : FuncId} {args : List V} {S : St} {R : V → St → Prop} (h : CallM P f args S R) : CallM P f args S fun r S' => R r S' ∧ ∀ m k, S'.get m = some k → m < S'.next := fun g w vals h1 h2 h3 h4 =>
  (h g w vals h1 h2 h3 h4).mono fun e w' ⟨r, v, S', g', e1, e2, e3, e4, e5, e6⟩ => ⟨r, v, S', g', e1, e2, e3, e4, e5, e6, fun m k hk => e4 m (e3.ok m k hk).1⟩
theorem row_len {G : Nat → Option Blk} {v : Nat} {l q : List Int} (h1 : G v = some (.row 1 (l.map ilit))) (h2 : G v = some (.row 1 (q.map ilit))) : q.length = l.length := by
  rw [h1] at h2
  injection h2 with h2
  injection h2 with _ h2
  have := congrArg List.length h2
  rw [List.length_map, List.length_map] at this
  exact this.symm
theorem OpsR.val {G G' : Nat → Option Blk} {xs : List V} {vn : List Nat} {v : Nat} {l l' : List Int} (h : OpsR G xs vn) (hl : G v = some (.row 1 (l.map ilit))) (hl' : l'.length = l.length) (h1 : G' v = some (.row 1 (l'.map ilit))) (hk : ∀ m k, m ≠ v → m ∈ vn → G m = some k → G' m = some k) : OpsR G' xs vn :=
  ⟨h.len, fun k w hw => by
    obtain ⟨a, b, c, d, q, q1, q2, q3⟩ := h.row k w hw
    by_cases e : w = v
    · subst e
      have := row_len hl q2
      exact ⟨a, b, c, d, l', by rw [hl', ← this]; exact q1, h1, by omega⟩
    · exact ⟨a, b, c, d, q, q1, hk _ _ e (List.mem_of_getElem? hw) q2, q3⟩⟩
def Dj (nn : List (Nat × List Nat)) : Prop := (∀ (i : Nat) (p : Nat × List Nat), nn[i]? = some p → (p.1 :: p.2).Nodup) ∧ ∀ (i j : Nat) (p q : Nat × List Nat), nn[i]? = some p → nn[j]? = some q → i ≠ j → ∀ m, m ∈ p.1 :: p.2 → m ∉ q.1 :: q.2
theorem dj_of : ∀ {nn : List (Nat × List Nat)}, (nmsT nn).Nodup → Dj nn
  | [], _ => ⟨by simp, by simp⟩
  | x :: r, h => by
    have e : nmsT (x :: r) = (x.1 :: x.2) ++ nmsT r := by simp [nmsT]
    rw [e, List.nodup_append] at h
    obtain ⟨h1, h2, h3⟩ := h
    obtain ⟨i1, i2⟩ := dj_of h2
    refine ⟨fun i p hp => ?_, fun i j p q hp hq hij m hm hm2 => ?_⟩
    · cases i with
      | zero => simp at hp; subst hp; exact h1
      | succ i => exact i1 i p (by simpa using hp)
    · have mem : ∀ {i : Nat} {p : Nat × List Nat}, r[i]? = some p → ∀ m, m ∈ p.1 :: p.2 → m ∈ nmsT r := fun hp m hm => nmsT_mem hp (by simpa using hm)
      cases i with
      | zero =>
        simp at hp; subst hp
        cases j with
        | zero => exact hij rfl
        | succ j => exact h3 m hm m (mem (by simpa using hq) m hm2) rfl
      | succ i =>
        cases j with
        | zero =>
          simp at hq; subst hq
          exact h3 m hm2 m (mem (by simpa using hp) m hm) rfl
        | succ j => exact i2 i j p q (by simpa using hp) (by simpa using hq) (by omega) m hm hm2
structure Kt (H : Nat → Option Blk) (ab bb wb : Blk) (b4 b6 b8 nk nt lk lt : Nat) (nn : List (Nat × List Nat)) (i : Nat) (G : Nat → Option Blk) : Prop where
  keep : ∀ m k, H m = some k → G m = some k
  a : G b4 = some ab
  b : G b6 = some bb
  w : G b8 = some wb
  ks : ∃ ks : List ByteArray, ks.length = lk ∧ G nk = some (.row 1 (ks.map fun s => .d (.str s)))
  ts : ∃ tv : List V, tv.length = lt ∧ G nt = some (.row 5 tv) ∧ ∀ (j : Nat) (p : Nat × List Nat), i ≤ j → nn[j]? = some p → ∃ x, tv[j]? = some x ∧ TxR G x p
structure Nt (H : Nat → Option Blk) (n0 b4 b6 b8 nk nt : Nat) (nn : List (Nat × List Nat)) : Prop where
  hH : ∀ m k, H m = some k → m < n0
  nd : (nk :: nt :: nmsT nn).Nodup
  lo : ∀ m ∈ nk :: nt :: nmsT nn, n0 ≤ m ∧ m < b4
  b46 : b4 < b6
  b68 : b6 < b8
section
variable {H : Nat → Option Blk} {ab bb wb : Blk} {n0 b4 b6 b8 nk nt lk lt : Nat} {nn : List (Nat × List Nat)} {i : Nat} {G G' : Nat → Option Blk}
theorem Nt.grp (hN : Nt H n0 b4 b6 b8 nk nt nn) {j : Nat} {p : Nat × List Nat} (hp : nn[j]? = some p) {m : Nat} (hm : m ∈ p.1 :: p.2) : n0 ≤ m ∧ m < b4 ∧ m ≠ nk ∧ m ≠ nt := by
  have h1 := nmsT_mem hp (by simpa using hm : m = p.1 ∨ m ∈ p.2)
  have h2 := hN.lo m (by simp [h1])
  have h3 := hN.nd
  simp only [List.nodup_cons, List.mem_cons, not_or] at h3
  refine ⟨h2.1, h2.2, fun e => h3.1.2 (e ▸ h1), fun e => h3.2.1 (e ▸ h1)⟩
theorem Nt.dj (hN : Nt H n0 b4 b6 b8 nk nt nn) : Dj nn := by
  have h3 := hN.nd
  simp only [List.nodup_cons] at h3
  exact dj_of h3.2.2
theorem Kt.inner (h : Kt H ab bb wb b4 b6 b8 nk nt lk lt nn i G) (hN : Nt H n0 b4 b6 b8 nk nt nn) {p : Nat × List Nat} (hp : nn[i]? = some p) (hk : ∀ m k, m ∉ p.1 :: p.2 → G m = some k → G' m = some k) (hx : ∀ x, TxR G x p → TxR G' x p) : Kt H ab bb wb b4 b6 b8 nk nt lk lt nn i G' := by
  have g : ∀ m, m ∈ p.1 :: p.2 → n0 ≤ m ∧ m < b4 ∧ m ≠ nk ∧ m ≠ nt := fun m hm => hN.grp hp hm
  have b46 := hN.b46
  have b68 := hN.b68
  have out : ∀ m, (m < n0 ∨ b4 ≤ m ∨ m = nk ∨ m = nt) → m ∉ p.1 :: p.2 := fun m hm hmem => by
    obtain ⟨g1, g2, g3, g4⟩ := g m hmem
    omega
  obtain ⟨ks, k1, k2⟩ := h.ks
  obtain ⟨tv, t1, t2, t3⟩ := h.ts
  refine ⟨fun m k hm => hk m k (out m (.inl (hN.hH m k hm))) (h.keep m k hm), hk _ _ (out _ (by omega)) h.a, hk _ _ (out _ (by omega)) h.b, hk _ _ (out _ (by omega)) h.w, ⟨ks, k1, hk _ _ (out _ (by omega)) k2⟩, ⟨tv, t1, hk _ _ (out _ (by omega)) t2, fun j q hj hq => ?_⟩⟩
  obtain ⟨x, x1, x2⟩ := t3 j q hj hq
  by_cases e : j = i
  · subst e
    rw [hp] at hq
    injection hq with hq
    subst hq
    exact ⟨x, x1, hx x x2⟩
  · exact ⟨x, x1, x2.old fun m k hm hmk => hk m k (hN.dj.2 j i q p hq hp e m (by simpa using hm)) hmk⟩
theorem Kt.app (h : Kt H ab bb wb b4 b6 b8 nk nt lk lt nn i G) (hN : Nt H n0 b4 b6 b8 nk nt nn) {p : Nat × List Nat} (hp : nn[i]? = some p) {tv : List V} (ht : G nt = some (.row 5 tv)) (x : V) (h1 : G' nt = some (.row 5 (tv.set i x))) (hk : ∀ m k, m ≠ p.1 → m ≠ nt → G m = some k → G' m = some k) : Kt H ab bb wb b4 b6 b8 nk nt lk lt nn (i + 1) G' := by
  obtain ⟨g1, g2, g3, g4⟩ := hN.grp hp (m := p.1) (by simp)
  have n1 := hN.lo nt (by simp)
  have n2 := hN.lo nk (by simp)
  have b46 := hN.b46
  have b68 := hN.b68
  have n3 : nk ≠ nt := by
    have h3 := hN.nd
    simp only [List.nodup_cons, List.mem_cons, not_or] at h3
    exact h3.1.1
  obtain ⟨ks, k1, k2⟩ := h.ks
  obtain ⟨tv', t1, t2, t3⟩ := h.ts
  have e : tv' = tv := by
    rw [ht] at t2
    injection t2 with t2
    injection t2 with _ t2
    exact t2.symm
  subst e
  refine ⟨fun m k hm => hk m k (by have := hN.hH m k hm; omega) (by have := hN.hH m k hm; omega) (h.keep m k hm), hk _ _ (by omega) (by omega) h.a, hk _ _ (by omega) (by omega) h.b, hk _ _ (by omega) (by omega) h.w, ⟨ks, k1, hk _ _ (fun e => g3 e.symm) n3 k2⟩, ⟨_, by rw [List.length_set]; exact t1, h1, fun j q hj hq => ?_⟩⟩
  obtain ⟨y, y1, y2⟩ := t3 j q (by omega) hq
  refine ⟨y, by rw [List.getElem?_set_ne (by omega)]; exact y1, y2.old fun m k hm hmk => hk m k (fun e => hN.dj.2 j i q p hq hp (by omega) m (by simpa using hm) (by simp [e])) (hN.grp hq (by simpa using hm)).2.2.2 hmk⟩
theorem Kt.key (h : Kt H ab bb wb b4 b6 b8 nk nt lk lt nn i G) (hN : Nt H n0 b4 b6 b8 nk nt nn) (ks : List ByteArray) (hl : ks.length = lk) (h1 : G' nk = some (.row 1 (ks.map fun s => .d (.str s)))) (hk : ∀ m k, m ≠ nk → G m = some k → G' m = some k) : Kt H ab bb wb b4 b6 b8 nk nt lk lt nn i G' := by
  have n2 := hN.lo nk (by simp)
  have b46 := hN.b46
  have b68 := hN.b68
  have n3 : nt ≠ nk := by
    have h3 := hN.nd
    simp only [List.nodup_cons, List.mem_cons, not_or] at h3
    exact fun e => h3.1.1 e.symm
  obtain ⟨tv, t1, t2, t3⟩ := h.ts
  refine ⟨fun m k hm => hk m k (by have := hN.hH m k hm; omega) (h.keep m k hm), hk _ _ (by omega) h.a, hk _ _ (by omega) h.b, hk _ _ (by omega) h.w, ⟨ks, hl, h1⟩, ⟨tv, t1, hk _ _ n3 t2, fun j q hj hq => ?_⟩⟩
  obtain ⟨y, y1, y2⟩ := t3 j q hj hq
  exact ⟨y, y1, y2.old fun m k hm hmk => hk m k (hN.grp hq (by simpa using hm)).2.2.1 hmk⟩
end
theorem TxR.kind {G G' : Nat → Option Blk} {x : V} {p : Nat × List Nat} {k v : Nat} {a b c : Int} {d : Bool} {xs : List V} {n : Nat} (h : TxR G x p) (hr : G p.1 = some (.row 5 xs)) (hx : xs[k]? = some (.agg [.d (.int .i64 a), .d (.int .i64 b), .d (.int .i64 c), .d (.bool d), .ms v 1 0 n])) (z : Int)
    (h1 : G' p.1 = some (.row 5 (xs.set k (.agg [.d (.int .i64 z), .d (.int .i64 b), .d (.int .i64 c), .d (.bool d), .ms v 1 0 n])))) (hk : ∀ m q, m ≠ p.1 → G m = some q → G' m = some q) (hnd : (p.1 :: p.2).Nodup) : TxR G' x p := by
  obtain ⟨a', b', c', d', ys, e1, e2, e3, e4⟩ := h
  have e : ys = xs := by
    rw [hr] at e2
    injection e2 with e2
    injection e2 with _ e2
    exact e2.symm
  subst e
  have hno : ∀ m ∈ p.2, m ≠ p.1 := fun m hm e => (List.nodup_cons.1 hnd).1 (e ▸ hm)
  refine ⟨a', b', c', d', _, by rw [List.length_set]; exact e1, h1, ⟨by rw [List.length_set]; exact e3.len, fun j w hw => ?_⟩, by rw [List.length_set]; exact e4⟩
  obtain ⟨a2, b2, c2, d2, l, l1, l2, l3⟩ := e3.row j w hw
  have hwm := hno w (List.mem_of_getElem? hw)
  by_cases e : j = k
  · subst e
    rw [l1] at hx
    injection hx with hx
    injection hx with hx
    injection hx with _ hx
    injection hx with q1 hx
    injection hx with q2 hx
    injection hx with q3 hx
    injection hx with q4 _
    injection q4 with q4 _ _ q5
    refine ⟨z, b, c, d, l, ?_, hk _ _ hwm l2, l3⟩
    rw [List.getElem?_set_self (List.getElem?_eq_some_iff.1 l1).1, q4, q5]
  · exact ⟨a2, b2, c2, d2, l, by rw [List.getElem?_set_ne (fun h => e h.symm)]; exact l1, hk _ _ hwm l2, l3⟩
theorem str_set (ks : List ByteArray) (i : Nat) (s : ByteArray) : (ks.map fun s => V.d (.str s)).set i (.d (.str s)) = (ks.set i s).map fun s => V.d (.str s) := by rw [List.map_set]
set_option maxHeartbeats 8000000 in
theorem law12 (l : List EventD) (hok : SlOk EventOk 40 l) : PureC Try.prog 12 [.d (evs l)] (.d (.bool true)) := by
  intro S
  refine CallM.pure' rfl (CallM.start (n := 114) Try.func12 rfl rfl (by simp) (by simp only [argL, Nat.reduceAdd] <;> rfl) ?_)
  intro hH
  obtain ⟨H, hHe⟩ : ∃ H, H = S.get := ⟨_, rfl⟩
  obtain ⟨n0, hne⟩ : ∃ n0, n0 = S.next := ⟨_, rfl⟩
  rw [← hHe, ← hne] at hH ⊢
  have h20 := copy20 l hok.1 (fun e he => ⟨(hok.2 e he).2.2.1, fun c hc => ((hok.2 e he).2.2.2 c hc).2.2.2.1⟩)
  have ho := build28o l hok
  have h28 := build28 l hok
  have h29 := build29 l hok
  have h30 := same30 (buildF l).1 (buildF_b hok)
  have h26 := same26 l hok
  rw [buildV] at h28 h29
  obtain ⟨hi, hhi⟩ : ∃ x, x = (buildF l).1 := ⟨_, rfl⟩
  obtain ⟨fa, hfa⟩ : ∃ x, x = (buildF l).2 := ⟨_, rfl⟩
  rw [← hhi, ← hfa] at h28 h29
  rw [← hhi] at h30
  rw [← hfa] at ho
  ((repeat refine WpM.seq ?_); have z_ex := True.intro; refine WpM.regPE [] [(0, _)] (by (refine s_m [] ?_; exact wpS_nil ⟨rfl, rfl⟩)) z_su ?_; clear z_ex)
  ((repeat refine WpM.seq ?_); have z_ex := True.intro; refine WpM.regPE [] [(0, _), (16, _)] (by (refine s_pure (callOf_eq rfl rfl rfl mlk_nil) (alive27) rfl rfl z_ip z_fp ?_; refine s_u [(15, _)] ?_; exact wpS_nil ⟨rfl, rfl⟩)) z_su ?_; clear z_ex)
  ((repeat refine WpM.seq ?_); refine WpM.condF (by (simp (maxSteps := 2000000) (disch := omega) [go_sem, -List.map_map])) ?_)
  refine WpM.skip ?_
  ((repeat refine WpM.seq ?_); have z_ex := True.intro; refine WpM.regPE [] [(0, _), (3, _)] (by (refine s_m [(0, _)] ?_; refine s_pure (callOf_eq rfl rfl rfl (mlk_tmp z_lk mlk_nil)) (h20) rfl rfl z_ip z_fp ?_; refine s_m [(18, _)] ?_; exact wpS_nil ⟨rfl, rfl⟩)) z_su ?_; clear z_ex)
  ((repeat refine WpM.seq ?_); have z_ex := (And.intro @fltV.eq_1 True.intro); refine WpM.regP [] ?_; intro K hK; refine s_m [(3, _)] ?_; refine s_call (callOf_eq rfl rfl rfl (mlk_tmp z_lk mlk_nil)) (CallM.lt (ho _)) rfl rfl z_ip ?_; rintro _ z_S ⟨⟨nk, nt, nn, keys, tv, rfl, o1, o2, o3, o4, o5, o6, o7, o8⟩, o10⟩; obtain ⟨zn, zl, zH⟩ := z_S; refine s_put z_fp ?_; refine s_m [(21, _)] ?_; refine s_x [(19, _)] ?_; refine s_x [(19, _)] ?_; refine s_a [] ?_; refine s_a [] ?_; refine s_s [(4, _), (22, _)] ?_; refine s_s [(5, _), (23, _)] ?_; refine s_endE [(0, _), (3, _), (4, _), (5, _)] hK z_su ?_; clear hK K; clear z_ex)
  have o1 : lget zl zH nk = _ := o1
  have o2 : lget zl zH nt = _ := o2
  have o6 : ∀ m k, H m = some k → lget zl zH m = some k := o6
  have o10 : ∀ m k, lget zl zH m = some k → m < zn := o10
  have o5 : ∀ m ∈ nk :: nt :: nmsT nn, n0 ≤ m := fun m hm => Nat.le_trans (Nat.le_add_right _ _) (o5 m hm)
  have t1 := o10 _ _ o1
  have t2 := o10 _ _ o2
  have t3 : ∀ m ∈ nmsT nn, m < zn := fun m hm => by
    unfold nmsT at hm
    obtain ⟨q, hq, hm⟩ := List.mem_flatMap.1 hm
    obtain ⟨j, hj, rfl⟩ := List.getElem_of_mem hq
    obtain ⟨x, _, a, b, c, d, xs, _, h2, h3, _⟩ := o3.row j _ (List.getElem?_eq_getElem hj)
    rcases List.mem_cons.1 hm with rfl | hm
    · exact o10 _ _ h2
    · obtain ⟨k, hk, rfl⟩ := List.getElem_of_mem hm
      obtain ⟨_, _, _, _, _, _, h4, _⟩ := h3.row k _ (List.getElem?_eq_getElem hk)
      exact o10 _ _ h4
  refine WpM.norm ?_
  intro nx G hnx hG hk
  have hnx : nx = zn + 7 := hnx
  obtain ⟨b4, hb4⟩ : ∃ b4, b4 = zn + 3 := ⟨_, rfl⟩
  have j0 : ∀ m k, lget zl zH m = some k → G m = some k := fun m k hk => by
    have := o10 m k hk
    rw [hG]; (simp (maxSteps := 2000000) (disch := omega) [go_sem, -List.map_map, hk])
  have j1 : G b4 = some (.box [.ms nk 1 0 keys.length, .ms nt 5 0 tv.length]) := by rw [hG, hb4]; (simp (maxSteps := 2000000) (disch := omega) [go_sem, -List.map_map])
  have j2 : G (zn + 4) = some (.box [.d (.int .i64 fa.1), .d (.int .i64 fa.2)]) := by rw [hG]; (simp (maxSteps := 2000000) (disch := omega) [go_sem, -List.map_map])
  clear hG
  rw [← hb4]
  ((repeat refine WpM.seq ?_); have z_ex := (And.intro @encHist.eq_1 (And.intro @fltV.eq_1 True.intro)); refine WpM.regPE [] [(0, _), (3, _), (4, _), (5, _), (6, _)] (by (refine s_m [(3, _)] ?_; refine s_pure (callOf_eq rfl rfl rfl (mlk_tmp z_lk mlk_nil)) (h28) rfl rfl z_ip z_fp ?_; refine s_m [(26, _)] ?_; refine s_x [(24, _)] ?_; refine s_x [(24, _)] ?_; refine s_a [] ?_; refine s_a [] ?_; refine s_s [(6, _), (27, _)] ?_; refine s_s [(7, _), (28, _)] ?_; exact wpS_nil ⟨rfl, rfl⟩)) z_su ?_; clear z_ex)
  ((repeat refine WpM.seq ?_); have z_ex := (And.intro @encHist.eq_1 (And.intro @fltV.eq_1 True.intro)); refine WpM.regPE [] [(0, _), (3, _), (4, _), (5, _), (6, _), (8, _), (9, _)] (by (refine s_m [(0, _)] ?_; refine s_pure (callOf_eq rfl rfl rfl (mlk_tmp z_lk mlk_nil)) (h29) rfl rfl z_ip z_fp ?_; refine s_m [(31, _)] ?_; refine s_x [(29, _)] ?_; refine s_x [(29, _)] ?_; refine s_a [] ?_; refine s_a [] ?_; refine s_s [(8, _), (32, _)] ?_; refine s_s [(9, _), (33, _)] ?_; exact wpS_nil ⟨rfl, rfl⟩)) z_su ?_; clear z_ex)
  ((repeat refine WpM.seq ?_); have z_ex := (And.intro @j2 True.intro); refine WpM.regPE [] [(0, _), (3, _), (4, _), (6, _), (8, _), (36, _)] (by (refine s_l [(5, _)] ?_; refine s_l [(9, _)] ?_; refine s_q [(34, _), (35, _)] ?_; exact wpS_nil ⟨rfl, rfl⟩)) z_su ?_; clear z_ex)
  ((repeat refine WpM.seq ?_); refine WpM.condF (by (simp (maxSteps := 2000000) (disch := omega) [go_sem, -List.map_map])) ?_)
  refine WpM.skip ?_
  refine WpM.norm ?_
  intro nx2 G2 hnx2 hG2 hk2
  obtain ⟨b6, hb6⟩ : ∃ b6, b6 = nx + 4 := ⟨_, rfl⟩
  obtain ⟨b8, hb8⟩ : ∃ b8, b8 = nx + 12 := ⟨_, rfl⟩
  obtain ⟨ab, hab⟩ : ∃ ab, ab = Blk.box [.ms nk 1 0 keys.length, .ms nt 5 0 tv.length] := ⟨_, rfl⟩
  obtain ⟨bb, hbb⟩ : ∃ bb, bb = Blk.box [.d (.sl (hi.keys.map D.str)), .d (.sl (hi.txns.map encTxn))] := ⟨_, rfl⟩
  have s0 : ∀ m k, m < nx → G m = some k → G2 m = some k := fun m k hm hk => by rw [hG2]; (simp (maxSteps := 2000000) (disch := omega) [go_sem, -List.map_map, hk])
  have r6 : G2 b6 = some bb := by rw [hG2, hb6, hbb]; (simp (maxSteps := 2000000) (disch := omega) [go_sem, -List.map_map])
  have r8 : G2 b8 = some bb := by rw [hG2, hb8, hbb]; (simp (maxSteps := 2000000) (disch := omega) [go_sem, -List.map_map])
  clear hG2
  have hN : Nt H n0 b4 b6 b8 nk nt nn := ⟨hH, o4, fun m hm => ⟨o5 m hm, ?_⟩, by omega, by omega⟩
  case refine_1 =>
    rcases List.mem_cons.1 hm with rfl | hm
    · omega
    · rcases List.mem_cons.1 hm with rfl | hm
      · omega
      · have := t3 m hm; omega
  have hK : Kt H ab bb bb b4 b6 b8 nk nt keys.length tv.length nn 0 G2 := by
    refine ⟨fun m k hm => s0 m k (by have := hH m k hm; have := o5 nk (by simp); omega) (j0 m k (o6 m k hm)), hab ▸ s0 _ _ (by omega) j1, r6, r8, ⟨keys, rfl, s0 _ _ (by omega) (j0 _ _ o1)⟩, ⟨tv, rfl, s0 _ _ (by omega) (j0 _ _ o2), fun j p _ hj => ?_⟩⟩
    obtain ⟨x, x1, x2⟩ := o3.row j p hj
    refine ⟨x, x1, x2.old fun m k hm hk => s0 m k ?_ (j0 m k hk)⟩
    have := t3 m (nmsT_mem hj hm)
    omega
  have hnl := o3.len
  clear s0 r6 r8 j0 j1 j2 o1 o2 o3 o4 o5 o6 o10 t3 hk2 hk
  rw [← hb6, ← hb8]
  ((repeat refine WpM.seq ?_); have z_ex := True.intro; refine WpM.regPE [] [(0, _), (3, _), (4, _), (6, _), (8, _), (10, _)] (by (refine s_m [] ?_; exact wpS_nil ⟨rfl, rfl⟩)) z_su ?_; clear z_ex)
  ((repeat refine WpM.seq ?_); refine WpM.block ?_)
  refine WpM.loop (fun (i : Nat) fr S => i ≤ tv.length ∧ (∃ nx G, S = ⟨nx, [], G⟩ ∧ Kt H ab bb bb b4 b6 b8 nk nt keys.length tv.length nn i G) ∧ fr = frOf [(0, .d (evs l)), (3, .d (evs l)), (4, .ptr b4 0), (6, .ptr b6 0), (8, .ptr b8 0), (10, .d (.int .i64 i))]) (fun i => tv.length - i) 0 (St.Le.refl _) (Sub.le z_su) ⟨by omega, ⟨_, _, rfl, hK⟩, rfl⟩ ?_
  clear hK
  rintro i fr S' ⟨hi2, ⟨nx3, G3, rfl, hK⟩, rfl⟩
  have q1 : G3 b4 = _ := hab ▸ hK.a
  ((repeat refine WpM.seq ?_); have z_ex := (And.intro @q1 True.intro); refine WpM.regPE [] [(0, _), (3, _), (4, _), (6, _), (8, _), (10, _), (41, _)] (by (refine s_m [(10, _)] ?_; refine s_f [(4, _)] ?_; refine s_l [(38, _)] ?_; refine s_q [(39, _)] ?_; refine s_q [(37, _), (40, _)] ?_; exact wpS_nil ⟨rfl, rfl⟩)) z_su ?_; clear z_ex)
  by_cases hit : i < tv.length
  · ((repeat refine WpM.seq ?_); refine WpM.condT (by (simp (maxSteps := 2000000) (disch := omega) [go_sem, -List.map_map, hit])) ?_)
    refine WpM.skip ?_
    ((repeat refine WpM.seq ?_); refine WpM.block ?_)
    obtain ⟨p, hp⟩ : ∃ p, nn[i]? = some p := ⟨_, List.getElem?_eq_getElem (by omega)⟩
    have hnd := hN.dj.1 i p hp
    have hg := fun m hm => hN.grp hp (m := m) hm
    have g1 := hg p.1 (by simp)
    have n1 := hN.lo nt (by simp)
    have e1 : b4 ≠ p.1 := by omega
    have e2 : nt ≠ p.1 := fun e => g1.2.2.2 e.symm
    have e3 : b4 ≠ nt := by omega
    clear q1
    ((repeat refine WpM.seq ?_); have z_ex := True.intro; refine WpM.regPE [] [(0, _), (3, _), (4, _), (6, _), (8, _), (10, _), (11, _)] (by (refine s_m [] ?_; exact wpS_nil ⟨rfl, rfl⟩)) z_su ?_; clear z_ex)
    ((repeat refine WpM.seq ?_); refine WpM.block ?_)
    refine WpM.loop (fun (k : Nat) fr S => ∃ nx G xs, S = ⟨nx, [], G⟩ ∧ k ≤ List.length xs ∧ List.length xs ≤ 16 ∧ G p.1 = some (.row 5 xs) ∧ Kt H ab bb bb b4 b6 b8 nk nt keys.length tv.length nn i G ∧ fr = frOf [(0, .d (evs l)), (3, .d (evs l)), (4, .ptr b4 0), (6, .ptr b6 0), (8, .ptr b8 0), (10, .d (.int .i64 i)), (11, .d (.int .i64 k))]) (fun k => 17 - k) 0 (St.Le.refl _) (Sub.le (l' := [(0, .d (evs l)), (3, .d (evs l)), (4, .ptr b4 0), (6, .ptr b6 0), (8, .ptr b8 0), (10, .d (.int .i64 i)), (11, .d (.int .i64 0))]) z_su) ?_ ?_
    · obtain ⟨tv', r1, r2, r3⟩ := hK.ts
      obtain ⟨x, x1, a, b, c, d, xs, x2, x3, x4, x5⟩ := r3 i p (Nat.le_refl _) hp
      exact ⟨_, G3, xs, rfl, by omega, x5, x3, hK, rfl⟩
    clear hK
    rintro k fr S' ⟨nx4, G4, xs, rfl, hkx, hx16, hrow, hK, rfl⟩
    refine WpM.known fun hk4 => ?_
    have hk4 : ∀ m z, G4 m = some z → m < nx4 := hk4
    have q1 : G4 b4 = _ := hab ▸ hK.a
    obtain ⟨tv', r1, r2, r3⟩ := hK.ts
    obtain ⟨x, x1, a, b, c, d, xs', x2, x3, x4, x5⟩ := r3 i p (Nat.le_refl _) hp
    have ex : xs' = xs := by
      rw [hrow] at x3
      injection x3 with x3
      injection x3 with _ x3
      exact x3.symm
    subst ex x2
    have hit' : i < tv'.length := by omega
    ((repeat refine WpM.seq ?_); have z_ex := (And.intro @q1 (And.intro @r2 (And.intro @x1 (And.intro @hit' True.intro)))); refine WpM.regPE [] [(0, _), (3, _), (4, _), (6, _), (8, _), (10, _), (11, _), (52, _)] (by (refine s_m [(11, _)] ?_; refine s_f [(4, _)] ?_; refine s_l [(45, _)] ?_; refine s_m [(10, _)] ?_; refine s_q [(46, _), (47, _)] ?_; refine s_f [(48, _)] ?_; refine s_l [(49, _)] ?_; refine s_q [(50, _)] ?_; refine s_q [(44, _), (51, _)] ?_; exact wpS_nil ⟨rfl, rfl⟩)) z_su ?_; clear z_ex)
    by_cases hkt : k < xs'.length
    · ((repeat refine WpM.seq ?_); refine WpM.condT (by (simp (maxSteps := 2000000) (disch := omega) [go_sem, -List.map_map, hkt])) ?_)
      refine WpM.skip ?_
      ((repeat refine WpM.seq ?_); refine WpM.block ?_)
      obtain ⟨v, hv⟩ : ∃ v, p.2[k]? = some v := ⟨_, List.getElem?_eq_getElem (by have := x4.len; omega)⟩
      ((repeat refine WpM.seq ?_); have z_ex := (And.intro @q1 (And.intro @r2 (And.intro @x1 (And.intro @hit' (And.intro @x3 (And.intro @hkt True.intro)))))); refine WpM.regPE [] [(0, _), (3, _), (4, _), (6, _), (8, _), (10, _), (11, _), (12, _)] (by (refine s_f [(4, _)] ?_; refine s_l [(55, _)] ?_; refine s_m [(10, _)] ?_; refine s_q [(56, _), (57, _)] ?_; refine s_f [(58, _)] ?_; refine s_l [(59, _)] ?_; refine s_m [(11, _)] ?_; refine s_q [(60, _), (61, _)] ?_; refine s_m [(62, _)] ?_; exact wpS_nil ⟨rfl, rfl⟩)) z_su ?_; clear z_ex)
      ((repeat refine WpM.seq ?_); have z_ex := True.intro; refine WpM.regPE [] [(0, _), (3, _), (4, _), (6, _), (8, _), (10, _), (11, _), (12, _), (13, _)] (by (refine s_m [] ?_; exact wpS_nil ⟨rfl, rfl⟩)) z_su ?_; clear z_ex)
      have hvm : v ∈ p.1 :: p.2 := List.mem_cons_of_mem _ (List.mem_of_getElem? hv)
      have hvp : p.1 ≠ v := fun e => (List.nodup_cons.1 hnd).1 (e ▸ List.mem_of_getElem? hv)
      ((repeat refine WpM.seq ?_); refine WpM.block ?_)
      refine WpM.loop (fun (m : Nat) fr S => ∃ nx G, ∃ (a b c : Int) (d : Bool) (xs : List V) (q : List Int), S = ⟨nx, [], G⟩ ∧ G p.1 = some (.row 5 xs) ∧ xs.length ≤ 16 ∧ k < xs.length ∧ xs[k]? = some (.agg [.d (.int .i64 a), .d (.int .i64 b), .d (.int .i64 c), .d (.bool d), .ms v 1 0 q.length]) ∧ G v = some (.row 1 (q.map ilit)) ∧ m ≤ q.length ∧ q.length ≤ 17592186044416 ∧ Kt H ab bb bb b4 b6 b8 nk nt keys.length tv.length nn i G ∧ fr = frOf [(0, .d (evs l)), (3, .d (evs l)), (4, .ptr b4 0), (6, .ptr b6 0), (8, .ptr b8 0), (10, .d (.int .i64 i)), (11, .d (.int .i64 k)), (12, .eptr p.1 k 0), (13, .d (.int .i64 m))]) (fun m => 17592186044417 - m) 0 (St.Le.refl _) (Sub.le (l' := [(0, .d (evs l)), (3, .d (evs l)), (4, .ptr b4 0), (6, .ptr b6 0), (8, .ptr b8 0), (10, .d (.int .i64 i)), (11, .d (.int .i64 k)), (12, .eptr p.1 k 0), (13, .d (.int .i64 0))]) z_su) ?_ ?_
      · obtain ⟨a, b, c, d, q, y1, y2, y3⟩ := x4.row k v hv
        exact ⟨_, G4, a, b, c, d, xs', q, rfl, x3, x5, hkt, y1, y2, by omega, y3, hK, rfl⟩
      clear hK q1 r1 r2 r3 x1 x3 x4 hrow hk4 hkx hx16 x5 hkt
      rintro m fr S' ⟨nx5, G5, a, b, c, d, xs, q, rfl, z1, z2, z3, z4, z5, z6, z7, hK, rfl⟩
      ((repeat refine WpM.seq ?_); have z_ex := (And.intro @z1 (And.intro @z4 (And.intro @z3 True.intro))); refine WpM.regPE [] [(0, _), (3, _), (4, _), (6, _), (8, _), (10, _), (11, _), (12, _), (13, _), (69, _)] (by (refine s_m [(13, _)] ?_; refine s_m [(12, _)] ?_; refine s_m [(64, _)] ?_; refine s_f [(65, _)] ?_; refine s_l [(66, _)] ?_; refine s_q [(67, _)] ?_; refine s_q [(63, _), (68, _)] ?_; exact wpS_nil ⟨rfl, rfl⟩)) z_su ?_; clear z_ex)
      by_cases hmt : m < q.length
      · ((repeat refine WpM.seq ?_); refine WpM.condT (by (simp (maxSteps := 2000000) (disch := omega) [go_sem, -List.map_map, hmt])) ?_)
        refine WpM.skip ?_
        ((repeat refine WpM.seq ?_); refine WpM.block ?_)
        have hgm : (q.map ilit)[m]? = some (.d (.int .i64 q[m])) := by simp [ilit, hmt]
        ((repeat refine WpM.seq ?_); have z_ex := (And.intro @z1 (And.intro @z4 (And.intro @z3 (And.intro @z5 (And.intro @hgm (And.intro @hmt True.intro)))))); refine WpM.regPE [] [(0, _), (3, _), (4, _), (6, _), (8, _), (10, _), (11, _), (12, _), (13, _)] (by (refine s_m [(12, _)] ?_; refine s_m [(72, _)] ?_; refine s_f [(73, _)] ?_; refine s_l [(74, _)] ?_; refine s_m [(13, _)] ?_; refine s_q [(75, _), (76, _)] ?_; refine s_s [(77, _)] ?_; exact wpS_nil ⟨rfl, rfl⟩)) z_su ?_; clear z_ex)
        rw [show (List.map ilit q).set m ([V.d (D.int .i64 (-77))].headD V.undef) = (q.set m (-77)).map ilit by rw [List.map_set]; rfl]
        refine blockM_norm ?_
        ((repeat refine WpM.seq ?_); have z_ex := (And.intro @wrap_id True.intro); refine WpM.regPE [] [(0, _), (3, _), (4, _), (6, _), (8, _), (10, _), (11, _), (12, _), (13, _)] (by (refine s_m [(13, _)] ?_; refine s_q [(70, _)] ?_; refine s_m [(71, _)] ?_; exact wpS_nil ⟨rfl, rfl⟩)) z_su ?_; clear z_ex)
        have hnew : ∀ z w, z ≠ v → G5 z = some w → lget [(v, some (Blk.row 1 ((q.set m (-77)).map ilit)))] G5 z = some w := fun z w hz hw => by (simp (maxSteps := 2000000) (disch := omega) [go_sem, -List.map_map, hz, hw])
        refine round_end (x' := m + 1) (St.Le.norm _) (Sub.le z_su) ⟨_, _, a, b, c, d, xs, q.set m (-77), rfl, hnew _ _ hvp z1, z2, z3, by rw [List.length_set]; exact z4, by (simp (maxSteps := 2000000) (disch := omega) [go_sem, -List.map_map]), by rw [List.length_set]; omega, by rw [List.length_set]; exact z7, hK.inner hN hp (fun z w hz hw => hnew z w (fun e => hz (e ▸ hvm)) hw) ?_, rfl⟩ (by omega)
        rintro x ⟨a', b', c', d', ys, y1, y2, y3, y4⟩
        exact ⟨a', b', c', d', ys, y1, hnew _ _ hvp y2, y3.val z5 (l' := q.set m (-77)) (by simp) (by (simp (maxSteps := 2000000) (disch := omega) [go_sem, -List.map_map])) fun z w hz _ hw => hnew z w hz hw, y4⟩
      · ((repeat refine WpM.seq ?_); refine WpM.condF (by (simp (maxSteps := 2000000) (disch := omega) [go_sem, -List.map_map, hmt])) ?_)
        (refine WpM.exit ?_; (repeat (with_reducible (first | refine thenM_exit ?_ | refine blockM_eq ?_ | refine blockM_ne (by decide) ?_))))
        ((repeat refine WpM.seq ?_); have z_ex := (And.intro @z1 (And.intro @z4 (And.intro @z3 True.intro))); refine WpM.regPE [] [(0, _), (3, _), (4, _), (6, _), (8, _), (10, _), (11, _)] (by (refine s_m [(12, _)] ?_; refine s_m [(78, _)] ?_; refine s_f [(79, _)] ?_; refine s_s [(80, _)] ?_; exact wpS_nil ⟨rfl, rfl⟩)) z_su ?_; clear z_ex)
        refine blockM_norm ?_
        ((repeat refine WpM.seq ?_); have z_ex := (And.intro @wrap_id True.intro); refine WpM.regPE [] [(0, _), (3, _), (4, _), (6, _), (8, _), (10, _), (11, _)] (by (refine s_m [(11, _)] ?_; refine s_q [(53, _)] ?_; refine s_m [(54, _)] ?_; exact wpS_nil ⟨rfl, rfl⟩)) z_su ?_; clear z_ex)
        have hnew : ∀ z w, z ≠ p.1 → G5 z = some w → lget [(p.1, some (Blk.row 5 (xs.set k (.agg [.d (.int .i64 99), .d (.int .i64 b), .d (.int .i64 c), .d (.bool d), .ms v 1 0 q.length]))))] G5 z = some w := fun z w hz hw => by (simp (maxSteps := 2000000) (disch := omega) [go_sem, -List.map_map, hz, hw])
        refine round_end (x' := k + 1) (St.Le.norm _) (Sub.le z_su) ⟨_, _, xs.set k (.agg [.d (.int .i64 99), .d (.int .i64 b), .d (.int .i64 c), .d (.bool d), .ms v 1 0 q.length]), rfl, by rw [List.length_set]; omega, by rw [List.length_set]; exact z2, by (simp (maxSteps := 2000000) (disch := omega) [go_sem, -List.map_map]), hK.inner hN hp (fun z w hz hw => hnew z w (fun e => hz (by simp [e])) hw) ?_, rfl⟩ (by omega)
        intro x hx
        exact hx.kind z1 z4 99 (by (simp (maxSteps := 2000000) (disch := omega) [go_sem, -List.map_map])) hnew hnd
    · ((repeat refine WpM.seq ?_); refine WpM.condF (by (simp (maxSteps := 2000000) (disch := omega) [go_sem, -List.map_map, hkt])) ?_)
      (refine WpM.exit ?_; (repeat (with_reducible (first | refine thenM_exit ?_ | refine blockM_eq ?_ | refine blockM_ne (by decide) ?_))))
      have hxt : xs'.take xs'.length = xs' := List.take_of_length_le (Nat.le_refl _)
      have n5 := hk4 _ _ x3
      have n6 := hk4 _ _ r2
      have n7 := hk4 _ _ q1
      ((repeat refine WpM.seq ?_); have z_ex := (And.intro @q1 (And.intro @r2 (And.intro @x1 (And.intro @hit' (And.intro @x3 (And.intro @hxt True.intro)))))); refine WpM.drwPE [] [(0, _), (3, _), (4, _), (6, _), (8, _), (10, _)] mixed (by kernel_rfl) (by kernel_rfl) [(1, 10), (4, 10), (8, 10), (1, 11)] (by kernel_rfl) (by (refine d_f [(4, _)] ?_; refine d_l [(81, _)] ?_; refine d_m [(10, _)] ?_; refine d_f [(4, _)] ?_; refine d_l [(84, _)] ?_; refine d_m [(10, _)] ?_; refine d_q [(85, _), (86, _)] ?_; refine d_f [(87, _)] ?_; refine d_l [(88, _)] ?_; refine d_g [] ?_; refine d_q [(90, _)] ?_; refine d_q [(89, _), (91, _)] ?_; refine d_q [(82, _), (83, _)] ?_; refine d_f [(93, _)] ?_; refine d_s [(92, _), (94, _)] ?_; exact d_end z_mt z_sn)) z_su ?_; clear z_ex)
      refine blockM_norm ?_
      ((repeat refine WpM.seq ?_); have z_ex := (And.intro @wrap_id True.intro); refine WpM.regPE [] [(0, _), (3, _), (4, _), (6, _), (8, _), (10, _)] (by (refine s_m [(10, _)] ?_; refine s_q [(42, _)] ?_; refine s_m [(43, _)] ?_; exact wpS_nil ⟨rfl, rfl⟩)) z_su ?_; clear z_ex)
      refine round_end (x' := i + 1) (St.Le.norm _) (Sub.le z_su) ⟨by omega, ⟨_, _, rfl, hK.app hN hp r2 (.agg [.d (.int .i64 a), .d (.int .i64 b), .d (.int .i64 c), .d (.int .i64 d), .ms (nx4 + 20) 5 0 (xs'.length + 1)]) (by (simp (maxSteps := 2000000) (disch := omega) [go_sem, -List.map_map])) fun z w h1 h2 hw => ?_⟩, rfl⟩ (by omega)
      have h3 := hk4 z w hw
      have h4 : z ≠ nx4 + 20 := by omega
      (simp (maxSteps := 2000000) (disch := omega) [go_sem, -List.map_map, h1, h2, h4, hw])
  · ((repeat refine WpM.seq ?_); refine WpM.condF (by (simp (maxSteps := 2000000) (disch := omega) [go_sem, -List.map_map, hit])) ?_)
    (refine WpM.exit ?_; (repeat (with_reducible (first | refine thenM_exit ?_ | refine blockM_eq ?_ | refine blockM_ne (by decide) ?_))))
    ((repeat refine WpM.seq ?_); have z_ex := True.intro; refine WpM.regPE [] [(0, _), (3, _), (4, _), (6, _), (8, _), (14, _)] (by (refine s_m [] ?_; exact wpS_nil ⟨rfl, rfl⟩)) z_su ?_; clear z_ex)
    clear q1
    ((repeat refine WpM.seq ?_); refine WpM.block ?_)
    refine WpM.loop (fun (j : Nat) fr S => j ≤ keys.length ∧ (∃ nx G, S = ⟨nx, [], G⟩ ∧ Kt H ab bb bb b4 b6 b8 nk nt keys.length tv.length nn i G) ∧ fr = frOf [(0, .d (evs l)), (3, .d (evs l)), (4, .ptr b4 0), (6, .ptr b6 0), (8, .ptr b8 0), (14, .d (.int .i64 j))]) (fun j => keys.length - j) 0 (St.Le.refl _) (Sub.le z_su) ⟨by omega, ⟨_, _, rfl, hK⟩, rfl⟩ ?_
    clear hK
    rintro j fr S' ⟨hj, ⟨nx4, G4, rfl, hK⟩, rfl⟩
    have q1 : G4 b4 = _ := hab ▸ hK.a
    ((repeat refine WpM.seq ?_); have z_ex := (And.intro @q1 True.intro); refine WpM.regPE [] [(0, _), (3, _), (4, _), (6, _), (8, _), (14, _), (99, _)] (by (refine s_m [(14, _)] ?_; refine s_f [(4, _)] ?_; refine s_l [(96, _)] ?_; refine s_q [(97, _)] ?_; refine s_q [(95, _), (98, _)] ?_; exact wpS_nil ⟨rfl, rfl⟩)) z_su ?_; clear z_ex)
    by_cases hjt : j < keys.length
    · ((repeat refine WpM.seq ?_); refine WpM.condT (by (simp (maxSteps := 2000000) (disch := omega) [go_sem, -List.map_map, hjt])) ?_)
      refine WpM.skip ?_
      ((repeat refine WpM.seq ?_); refine WpM.block ?_)
      obtain ⟨ks, k1, k2⟩ := hK.ks
      have hjk : j < ks.length := by omega
      have hgk : (ks.map fun s => V.d (.str s))[j]? = some (.d (.str ks[j])) := by simp [hjk]
      have n2 := hN.lo nk (by simp)
      have e1 : b4 ≠ nk := by omega
      ((repeat refine WpM.seq ?_); have z_ex := (And.intro @q1 (And.intro @k2 (And.intro @hgk (And.intro @hjt (And.intro @hjk True.intro))))); refine WpM.regPE [] [(0, _), (3, _), (4, _), (6, _), (8, _), (14, _)] (by (refine s_f [(4, _)] ?_; refine s_l [(102, _)] ?_; refine s_m [(14, _)] ?_; refine s_q [(103, _), (104, _)] ?_; refine s_s [(105, _)] ?_; exact wpS_nil ⟨rfl, rfl⟩)) z_su ?_; clear z_ex)
      rw [show ∀ z : ByteArray, (List.map (fun s => V.d (D.str s)) ks).set j ([V.d (D.str z)].headD V.undef) = (ks.set j z).map fun s => V.d (D.str s) from fun z => by rw [List.map_set]; rfl]
      refine blockM_norm ?_
      ((repeat refine WpM.seq ?_); have z_ex := (And.intro @wrap_id True.intro); refine WpM.regPE [] [(0, _), (3, _), (4, _), (6, _), (8, _), (14, _)] (by (refine s_m [(14, _)] ?_; refine s_q [(100, _)] ?_; refine s_m [(101, _)] ?_; exact wpS_nil ⟨rfl, rfl⟩)) z_su ?_; clear z_ex)
      refine round_end (x' := j + 1) (St.Le.norm _) (Sub.le z_su) ⟨by omega, ⟨_, _, rfl, hK.key hN (ks.set j ⟨#[109, 97, 114, 107, 101, 100]⟩) (by simp [k1]) (by (simp (maxSteps := 2000000) (disch := omega) [go_sem, -List.map_map])) fun z w hz hw => by (simp (maxSteps := 2000000) (disch := omega) [go_sem, -List.map_map, hz, hw])⟩, rfl⟩ (by omega)
    · ((repeat refine WpM.seq ?_); refine WpM.condF (by (simp (maxSteps := 2000000) (disch := omega) [go_sem, -List.map_map, hjt])) ?_)
      (refine WpM.exit ?_; (repeat (with_reducible (first | refine thenM_exit ?_ | refine blockM_eq ?_ | refine blockM_ne (by decide) ?_))))
      have q2 : G4 b6 = _ := hbb ▸ hK.b
      have q3 : G4 b8 = _ := hbb ▸ hK.w
      rw [encHist] at h30
      ((repeat refine WpM.seq ?_); have z_ex := (And.intro @q2 (And.intro @q3 (And.intro @evs.eq_1 True.intro))); refine WpM.regPE [] [(2, _)] (by (refine s_l [(6, _)] ?_; refine s_l [(8, _)] ?_; refine s_pure (callOf_eq rfl rfl rfl (mlk_tmp z_lk (mlk_tmp z_lk mlk_nil))) (h30) rfl rfl z_ip z_fp ?_; refine s_m [(108, _)] ?_; refine s_wit ?_; intro z_g; (first | refine s_skip rfl z_g z_fp ?_ | (refine s_m [(3, _)] ?_ (hg := z_g))); clear z_g; refine s_wit ?_; intro z_g; (first | refine s_skip rfl z_g z_fp ?_ | (refine s_m [(0, _)] ?_ (hg := z_g))); clear z_g; refine s_wit ?_; intro z_g; (first | refine s_skip rfl z_g z_fp ?_ | (refine s_pure (callOf_eq rfl rfl rfl (mlk_tmp z_lk (mlk_tmp z_lk mlk_nil))) (h26) rfl z_g z_ip z_fp ?_)); clear z_g; refine s_m [(109, _), (112, _)] ?_; refine s_m [(113, _)] ?_; exact wpS_nil ⟨rfl, rfl⟩)) z_su ?_; clear z_ex)
      refine WpM.ret ?_
      exact ⟨.inr rfl, Upd.done ⟨.d (.bool true), (by (simp (maxSteps := 2000000) (disch := omega) [go_sem, -List.map_map, resV, resVs, resV1])), rfl, fun m k _ hk => hK.keep m k hk⟩⟩
end Go.Proofs.Ytjjmedgibcffhaa
