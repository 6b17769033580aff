/- index.Build. -/
import Derived.Test.YtjjmedgibcffhaaRMd
import Derived.Test.YtjjmedgibcffhaaROp2
import Derived.Test.YtjjmedgibcffhaaRIx15
import Derived.Test.YtjjmedgibcffhaaRIx8
namespace Go.Proofs.Ytjjmedgibcffhaa
open Go.RowKit M
set_option linter.unusedSimpArgs false
set_option linter.unusedVariables false
/-- What stands while a history is built. -/
structure BInv (At : (Nat → Option Blk) → Nat → Bk → (Nat → Prop) → Prop) (H : Nat → Option Blk) (n0 L nh nr : Nat) (ts : List TxnD) (b : Bk) (O : Nat → Prop) (G : Nat → Option Blk) (nx : Nat) : Prop where
  r2 : G n0 = some (.box [.nil, .nil])
  r3 : G (n0 + 1) = some (.box [.d (.int .i64 0), .d (.int .i64 0)])
  hb : G nh = some (.box [.nil, .ms nr 5 0 ts.length])
  hr : G nr = some (.row 5 (ts.map fun t => .d (encTxn t)))
  led : At G L b O
  oo : ∀ m, O m → n0 + 2 ≤ m ∧ m < nx
  o1 : ¬ O nh
  o2 : ¬ O nr
  l1 : n0 + 2 ≤ nh ∧ nh < nx
  l2 : n0 + 2 ≤ nr ∧ nr < nx
  old : ∀ m k, H m = some k → G m = some k
theorem BInv.enter {At : (Nat → Option Blk) → Nat → Bk → (Nat → Prop) → Prop} {H : Nat → Option Blk} {n0 L nh nr : Nat} {ts : List TxnD} {b b' : Bk} {O O' : Nat → Prop} {G G' : Nat → Option Blk} {nx nx' : Nat} (h : BInv At H n0 L nh nr ts b O G nx)
    (hH : ∀ m k, H m = some k → m < n0) (hnx : nx ≤ nx') (hold : ∀ m k, ¬ O m → G m = some k → G' m = some k) (hO : ∀ m, O' m → (O m ∨ nx ≤ m) ∧ m < nx') (hl : At G' L b' O') : BInv At H n0 L nh nr ts b' O' G' nx' := by
  have hn : ∀ m, m < n0 + 2 → ¬ O m := fun m hm ho => by have := (h.oo m ho).1; omega
  refine ⟨hold _ _ (hn _ (by omega)) h.r2, hold _ _ (hn _ (by omega)) h.r3, hold _ _ h.o1 h.hb, hold _ _ h.o2 h.hr, hl, fun m hm => ?_, fun hm => ?_, fun hm => ?_, ⟨h.l1.1, by have := h.l1.2; omega⟩, ⟨h.l2.1, by have := h.l2.2; omega⟩, fun m k hk => hold m k (hn m (by have := hH m k hk; omega)) (h.old m k hk)⟩
  · obtain ⟨h1, h2⟩ := hO m hm
    refine ⟨?_, h2⟩
    rcases h1 with h1 | h1
    · exact (h.oo m h1).1
    · have := h.l1; omega
  · rcases (hO _ hm).1 with h1 | h1
    · exact h.o1 h1
    · have := h.l1; omega
  · rcases (hO _ hm).1 with h1 | h1
    · exact h.o2 h1
    · have := h.l2; omega
theorem BInv.same {At : (Nat → Option Blk) → Nat → Bk → (Nat → Prop) → Prop} {H : Nat → Option Blk} {n0 L nh nr : Nat} {ts : List TxnD} {b : Bk} {O : Nat → Prop} {G G' : Nat → Option Blk} {nx nx' : Nat} (h : BInv At H n0 L nh nr ts b O G nx)
    (hsame : ∀ {G G' : Nat → Option Blk}, At G L b O → (∀ m k, O m → G m = some k → G' m = some k) → At G' L b O)
    (hH : ∀ m k, H m = some k → m < n0) (hnx : nx ≤ nx') (hold : ∀ m k, m < nx → G m = some k → G' m = some k) : BInv At H n0 L nh nr ts b O G' nx' := by
  have l1 := h.l1
  have l2 := h.l2
  exact ⟨hold _ _ (by omega) h.r2, hold _ _ (by omega) h.r3, hold _ _ l1.2 h.hb, hold _ _ l2.2 h.hr, hsame h.led fun m k ho hk => hold m k (h.oo m ho).2 hk, fun m hm => ⟨(h.oo m hm).1, by have := (h.oo m hm).2; omega⟩, h.o1, h.o2, ⟨l1.1, by omega⟩, ⟨l2.1, by omega⟩,
    fun m k hk => hold m k (by have := hH m k hk; omega) (h.old m k hk)⟩
/-- A transaction more. -/
theorem BInv.push {At : (Nat → Option Blk) → Nat → Bk → (Nat → Prop) → Prop} {H : Nat → Option Blk} {n0 L nh nr nr' : Nat} {ts : List TxnD} {t : TxnD} {b : Bk} {O : Nat → Prop} {G G' : Nat → Option Blk} {nx nx' : Nat} (h : BInv At H n0 L nh nr ts b O G nx)
    (hsame : ∀ {G G' : Nat → Option Blk}, At G L b O → (∀ m k, O m → G m = some k → G' m = some k) → At G' L b O)
    (hH : ∀ m k, H m = some k → m < n0) (hnx : nx ≤ nr') (hnr : nr' < nx') (hb : G' nh = some (.box [.nil, .ms nr' 5 0 (ts.length + 1)])) (hr : G' nr' = some (.row 5 ((ts.map fun t => .d (encTxn t)) ++ [.d (encTxn t)])))
    (hold : ∀ m k, m < nx → m ≠ nh → m ≠ nr → G m = some k → G' m = some k) : BInv At H n0 L nh nr' (ts ++ [t]) b O G' nx' := by
  have l1 := h.l1
  have l2 := h.l2
  refine ⟨hold _ _ (by omega) (by omega) (by omega) h.r2, hold _ _ (by omega) (by omega) (by omega) h.r3, by rw [hb]; simp, by rw [hr]; simp, hsame h.led fun m k ho hk => hold m k (h.oo m ho).2 (fun e => h.o1 (e ▸ ho)) (fun e => h.o2 (e ▸ ho)) hk, fun m hm => ⟨(h.oo m hm).1, by have := (h.oo m hm).2; omega⟩, h.o1, fun hm => by have := (h.oo _ hm).2; omega, ⟨l1.1, by omega⟩, ⟨by omega, by omega⟩,
    fun m k hk => ?_⟩
  have := hH m k hk
  exact hold m k (by omega) (by omega) (by omega) (h.old m k hk)
theorem enter48_in {b : Bk} {n : Nat} (hw : b.Wf n) (c : CallD) (hk1 : 1 ≤ c.kind) (hk8 : c.kind ≤ 8) (who : Int) (res : Except Int Bk) (hres : enterB b c who = res) {L : Nat} {O : Nat → Prop} {G : Nat → Option Blk} {nx : Nat} (hAt : LedAt G L b O) (hO : ∀ m, O m → m < nx) (hGk : ∀ m k, G m = some k → m < nx)
    (nn nq : Nat) (q : Option Blk) (h1 : nx ≤ nq) (h2 : nx ≤ nn) :
    CallM Try.prog 48 [.ptr L 0, .d (.agg [.int .i64 c.kind, .str c.key, .int .i64 c.arg, .bool c.got, .sl (c.vals.map (D.int .i64))]), .d (.int .i64 who)] ⟨nn, [(nq, q)], G⟩ fun r S' => EntP LedAt nx G L O res r S' := by
  have hget : ∀ m, m < nx → St.get ⟨nn, [(nq, q)], G⟩ m = G m := fun m hm => by
    have : m ≠ nq := by omega
    (simp (maxSteps := 2000000) (disch := omega) [go_sem, -List.map_map])
  have hE := enter48 b n hw c hk1 hk8 who L O ⟨nn, [(nq, q)], G⟩ (hAt.same fun m k ho hk => by rw [hget m (hO m ho)]; exact hk) (fun m hm => Nat.lt_of_lt_of_le (hO m hm) h2)
  rw [hres] at hE
  refine hE.mono ?_
  rintro r S' ⟨a1, a2, a3⟩
  refine ⟨Nat.le_trans h2 a1, fun m k ho hk => a2 m k ho (by rw [hget m (hGk m k hk)]; exact hk), ?_⟩
  cases res with
  | error e => exact a3
  | ok b' =>
    obtain ⟨b1, O', b2, b3⟩ := a3
    exact ⟨b1, O', fun m hm => ⟨(b2 m hm).1.imp id (fun h => Nat.le_trans h2 h), (b2 m hm).2⟩, b3⟩
theorem clone49' (c : List Int) (hlen : c.length * 8 ≤ 140737488351232) : PureC Try.prog 49 [.d (.sl (c.map (D.int .i64)))] (.d (.sl (c.map (D.int .i64)))) := by
  refine PureC.of (n := 8) Try.func49 rfl rfl (by simp) (by simp only [argL, Nat.reduceAdd] <;> rfl) rfl ?_
  intro n0 H hH
  cases c with
  | nil =>
    ((repeat refine WpM.seq ?_); have z_ex := True.intro; refine WpM.regPE [] [(0, _)] (by (refine s_m [] ?_; exact wpS_nil ⟨rfl, rfl⟩)) z_su ?_; clear z_ex)
    ((repeat refine WpM.seq ?_); have z_ex := True.intro; refine WpM.regP [] ?_; intro K hK; refine s_m [(0, _)] ?_; refine wpS_cmp rfl rfl rfl rfl z_lk un44 ?_; intro z_b; refine s_put z_fp ?_; refine s_endE [(0, _), (4, _)] hK z_su ?_; clear hK K; clear z_ex)
    cases z_b with
    | true =>
      ((repeat refine WpM.seq ?_); refine WpM.condT (by (simp (maxSteps := 2000000) (disch := omega) [go_sem, -List.map_map])) ?_)
      ((repeat refine WpM.seq ?_); have z_ex := True.intro; refine WpM.regPE [] [(2, _)] (by (refine s_m [] ?_; exact wpS_nil ⟨rfl, rfl⟩)) z_su ?_; clear z_ex)
      refine WpM.ret ?_
      refine ⟨.inr rfl, Upd.pureNil 2 (.inl (by (simp (maxSteps := 2000000) (disch := omega) [go_sem, -List.map_map]))) (Upd.done ?_)⟩
      (simp (maxSteps := 2000000) (disch := omega) [go_sem, -List.map_map, resV, resVs, resV1, fset])
    | false =>
      ((repeat refine WpM.seq ?_); refine WpM.condF (by (simp (maxSteps := 2000000) (disch := omega) [go_sem, -List.map_map])) ?_)
      refine WpM.skip ?_
      ((repeat refine WpM.seq ?_); have z_ex := True.intro; refine WpM.regPE [7] [(2, _)] (by (refine s_q [] ?_; refine s_m [(0, _)] ?_; refine s_q [(5, _), (6, _)] ?_; refine s_m [(7, _)] ?_; exact wpS_nil ⟨rfl, rfl⟩)) z_su ?_; clear z_ex)
      (refine WpM.ret ?_; refine ⟨.inr rfl, Upd.done ?_⟩; (simp (maxSteps := 2000000) (disch := omega) [go_sem, -List.map_map, resV, resVs, resV1,]))
  | cons a r =>
    ((repeat refine WpM.seq ?_); have z_ex := True.intro; refine WpM.regPE [] [(0, _)] (by (refine s_m [] ?_; exact wpS_nil ⟨rfl, rfl⟩)) z_su ?_; clear z_ex)
    ((repeat refine WpM.seq ?_); have z_ex := True.intro; refine WpM.regPE [] [(0, _), (4, _)] (by (refine s_m [(0, _)] ?_; refine s_q [(3, _)] ?_; exact wpS_nil ⟨rfl, rfl⟩)) z_su ?_; clear z_ex)
    ((repeat refine WpM.seq ?_); refine WpM.condF (by (simp (maxSteps := 2000000) (disch := omega) [go_sem, -List.map_map])) ?_)
    refine WpM.skip ?_
    simp only [List.length_cons] at hlen
    ((repeat refine WpM.seq ?_); have z_ex := True.intro; refine WpM.regPE [7] [(2, _)] (by (refine s_q [] ?_; refine s_m [(0, _)] ?_; refine s_q [(5, _), (6, _)] ?_; refine s_m [(7, _)] ?_; exact wpS_nil ⟨rfl, rfl⟩)) z_su ?_; clear z_ex)
    (refine WpM.ret ?_; refine ⟨.inr rfl, Upd.done ?_⟩; (simp (maxSteps := 2000000) (disch := omega) [go_sem, -List.map_map, resV, resVs, resV1,]))
theorem callsFor_ok {l : List EventD} (hok : SlOk EventOk 40 l) {p : PairD} (h : PairOk l p) : ∀ c ∈ callsFor l p, CallOk c := by
  intro c hc
  unfold callsFor at hc
  split at hc
  · rename_i hs
    obtain ⟨t, h1, h2, h3, h4⟩ := h.to_ hs
    rw [h1, show ((t : Int)).toNat = t by simp, ev_eq h2] at hc
    exact (hok.2 l[t] (List.getElem_mem _)).2.2.2 c hc
  · rw [ev_eq h.frm] at hc
    exact (hok.2 (l[p.from_]'h.frm) (List.getElem_mem _)).2.2.2 c hc
def fltV (e : Int × Int) : V := .d (.agg [.int .i64 e.1, .int .i64 e.2])
/-- What Build answers. -/
noncomputable def buildV (l : List EventD) : V := .tup [.d (encHist (buildF l).1), fltV (buildF l).2]
set_option maxHeartbeats 8000000 in
theorem build28 (l : List EventD) (hok : SlOk EventOk 40 l) : PureC Try.prog 28 [.d (evs l)] (buildV l) := by
  intro S
  refine CallM.pure' (by rfl) (CallM.start (n := 130) Try.func28 rfl rfl (by simp) (by simp only [argL, Nat.reduceAdd] <;> rfl) ?_)
  intro hH
  obtain ⟨H, hHe⟩ : ∃ H, H = S.get := ⟨_, rfl⟩
  obtain ⟨n0, hne⟩ : ∃ n0, n0 = S.next := ⟨_, rfl⟩
  rw [← hHe, ← hne] at hH ⊢
  have hpairs := pairs19 l hok
  ((repeat refine WpM.seq ?_); have z_ex := True.intro; refine WpM.regPE [] [(0, _), (2, _), (3, _)] (by (refine s_a [] ?_; refine s_a [] ?_; exact wpS_nil ⟨rfl, rfl⟩)) z_su ?_; clear z_ex)
  cases hp : pairsF l with
  | error e =>
    have hpv : pairsV l = .tup [.d (.sl []), .d (.agg [.int .i64 e.1, .int .i64 e.2])] := by rw [pairsV, hp]; rfl
    have hb : buildV l = .tup [.d (.agg [.sl [], .sl []]), .d (.agg [.int .i64 e.1, .int .i64 e.2])] := by rw [buildV, buildF, hp]; rfl
    rw [hpv] at hpairs
    have hne : e.1 ≠ 0 := by
      obtain ⟨_, ps, h2⟩ | ⟨_, h2⟩ | ⟨j, _, h2, _⟩ := flOf_cases l
      · rw [hp] at h2; cases h2
      · rw [hp] at h2; injection h2 with h2; rw [h2]; decide
      · rw [hp] at h2; injection h2 with h2; rw [h2]; show (40 : Int) ≠ 0; decide
    rw [hb]
    ((repeat refine WpM.seq ?_); have z_ex := True.intro; refine WpM.regPE [] [(0, _), (2, _), (3, _), (4, _), (5, _)] (by (refine s_m [(0, _)] ?_; refine s_pure (callOf_eq rfl rfl rfl (mlk_tmp z_lk mlk_nil)) (hpairs) rfl rfl z_ip z_fp ?_; refine s_m [(20, _)] ?_; refine s_x [(18, _)] ?_; refine s_x [(18, _)] ?_; refine s_a [] ?_; refine s_m [(21, _)] ?_; refine s_s [(5, _), (22, _)] ?_; exact wpS_nil ⟨rfl, rfl⟩)) z_su ?_; clear z_ex)
    ((repeat refine WpM.seq ?_); have z_ex := (And.intro @hne True.intro); refine WpM.regPE [] [(0, _), (2, _), (3, _), (4, _), (5, _), (25, _)] (by (refine s_f [(5, _)] ?_; refine s_l [(23, _)] ?_; refine s_q [(24, _)] ?_; exact wpS_nil ⟨rfl, rfl⟩)) z_su ?_; clear z_ex)
    ((repeat refine WpM.seq ?_); refine WpM.condT (by (simp (maxSteps := 2000000) (disch := omega) [go_sem, -List.map_map, hne])) ?_)
    ((repeat refine WpM.seq ?_); have z_ex := True.intro; refine WpM.drwPE [] [(2, _), (3, _)] mixed (by kernel_rfl) (by kernel_rfl) [(1, 2)] (by kernel_rfl) (by (refine d_g [] ?_; refine d_l [(5, _)] ?_; refine d_s [(2, _), (26, _)] ?_; refine d_s [(3, _), (27, _)] ?_; exact d_end z_mt z_sn)) z_su ?_; clear z_ex)
    refine WpM.ret ?_
    refine ⟨.inr rfl, Upd.nilIn n0 0 (cs := [.nil, .nil]) (by (simp (maxSteps := 2000000) (disch := omega) [go_sem, -List.map_map])) (.inl rfl) (Upd.nilIn n0 1 (cs := [.d (.sl []), .nil]) (by (simp (maxSteps := 2000000) (disch := omega) [go_sem, -List.map_map])) (.inl rfl) (Upd.done ⟨_, (by (simp (maxSteps := 2000000) (disch := omega) [go_sem, -List.map_map, resV, resVs, resV1])), rfl, fun m k _ hk => ?_⟩))⟩
    have := hH _ _ hk
    (simp (maxSteps := 2000000) (disch := omega) [go_sem, -List.map_map, hk])
  | ok ps =>
    have hpv : pairsV l = .tup [.d (.sl (ps.map encPair)), .d (.agg [.int .i64 0, .int .i64 0])] := by rw [pairsV, hp]; rfl
    rw [hpv] at hpairs
    ((repeat refine WpM.seq ?_); have z_ex := True.intro; refine WpM.regPE [] [(0, _), (2, _), (3, _), (4, _), (5, _)] (by (refine s_m [(0, _)] ?_; refine s_pure (callOf_eq rfl rfl rfl (mlk_tmp z_lk mlk_nil)) (hpairs) rfl rfl z_ip z_fp ?_; refine s_m [(20, _)] ?_; refine s_x [(18, _)] ?_; refine s_x [(18, _)] ?_; refine s_a [] ?_; refine s_m [(21, _)] ?_; refine s_s [(5, _), (22, _)] ?_; exact wpS_nil ⟨rfl, rfl⟩)) z_su ?_; clear z_ex)
    ((repeat refine WpM.seq ?_); have z_ex := True.intro; refine WpM.regPE [] [(0, _), (2, _), (3, _), (4, _), (5, _), (25, _)] (by (refine s_f [(5, _)] ?_; refine s_l [(23, _)] ?_; refine s_q [(24, _)] ?_; exact wpS_nil ⟨rfl, rfl⟩)) z_su ?_; clear z_ex)
    ((repeat refine WpM.seq ?_); refine WpM.condF (by (simp (maxSteps := 2000000) (disch := omega) [go_sem, -List.map_map])) ?_)
    refine WpM.skip ?_
    have hps : ps.length ≤ 256 := by have := psOf_len l; rw [hp] at this; exact this
    have hl256 : l.length ≤ 256 := listOk_len (pairsF_ok hp).1
    ((repeat refine WpM.seq ?_); have z_ex := True.intro; refine WpM.regP [] ?_; intro K hK; refine s_call (callOf_eq rfl rfl rfl mlk_nil) (new47 ⟨_, [(n0, some (.box [.nil, .nil])), (n0 + 1, some (.box [.d (.int .i64 0), .d (.int .i64 0)])), (n0 + 6, some (.box [.d (.int .i64 0), .d (.int .i64 0)]))], H⟩) rfl rfl z_ip ?_; rintro _ z_S ⟨L, O, rfl, hLed, hO, hnx1, old⟩; refine s_put z_fp ?_; refine s_m [(28, _)] ?_; refine s_endE [(0, _), (2, _), (3, _), (4, _), (6, _)] hK z_su ?_; clear hK K; clear z_ex)
    refine WpM.norm ?_
    intro nx G hnx hG hk
    have hnx : nx = z_S.next + 1 := hnx
    have hG : G = z_S.get := hG
    have hn1 : n0 + 12 ≤ z_S.next := Nat.le_trans (by show n0 + 12 ≤ n0 + _; omega) hnx1
    have hO' : ∀ m, O m → n0 + 12 ≤ m ∧ m < nx := fun m hm => ⟨Nat.le_trans (by show n0 + 12 ≤ n0 + _; omega) (hO m hm).1, by have := (hO m hm).2; omega⟩
    have g2 : G n0 = some (.box [.nil, .nil]) := by rw [hG]; exact old _ _ (by (simp (maxSteps := 2000000) (disch := omega) [go_sem, -List.map_map]))
    have g3 : G (n0 + 1) = some (.box [.d (.int .i64 0), .d (.int .i64 0)]) := by rw [hG]; exact old _ _ (by (simp (maxSteps := 2000000) (disch := omega) [go_sem, -List.map_map]))
    have gH : ∀ m k, H m = some k → G m = some k := fun m k hk => by
      have := hH m k hk
      rw [hG]
      exact old _ _ (by (simp (maxSteps := 2000000) (disch := omega) [go_sem, -List.map_map, hk]))
    have gL : LedAt G L Bk.empty O := by rw [hG]; exact hLed
    clear hLed hO old hnx1 hk
    ((repeat refine WpM.seq ?_); have z_ex := True.intro; refine WpM.regPE [] [(0, _), (2, _), (3, _), (4, _), (6, _), (7, _)] (by (refine s_a [] ?_; exact wpS_nil ⟨rfl, rfl⟩)) z_su ?_; clear z_ex)
    refine Upd.wp (Upd.ghostIn nx 1 5 (cs := [.nil, .nil]) (by (simp (maxSteps := 2000000) (disch := omega) [go_sem, -List.map_map])) (.inl rfl) (Upd.done ?_))
    refine WpM.less (St.Le.refl _) (frLe_frOf (l := [(0, .d (evs l)), (2, .ptr n0 0), (3, .ptr (n0 + 1) 0), (4, .d (.sl (ps.map encPair))), (6, .ptr L 0), (7, .ptr nx 0)]) (by (simp (maxSteps := 2000000) (disch := omega) [go_sem, -List.map_map]))) ?_
    refine WpM.norm ?_
    intro nx1 G1 hnx1 hG1 hk1
    have hI : BInv LedAt H n0 L nx (nx + 1) [] Bk.empty O G1 nx1 := by
      have hnx1' : nx1 = nx + 2 := hnx1
      refine ⟨by rw [hG1]; (simp (maxSteps := 2000000) (disch := omega) [go_sem, -List.map_map, g2]), by rw [hG1]; (simp (maxSteps := 2000000) (disch := omega) [go_sem, -List.map_map, g3]), by rw [hG1]; (simp (maxSteps := 2000000) (disch := omega) [go_sem, -List.map_map]), by rw [hG1]; (simp (maxSteps := 2000000) (disch := omega) [go_sem, -List.map_map]), gL.same fun m k ho hk => ?_, fun m hm => ⟨by have := (hO' m hm).1; omega, by have := (hO' m hm).2; omega⟩, fun h => by have := (hO' _ h).2; omega, fun h => by have := (hO' _ h).2; omega, by omega, by omega, fun m k hk => ?_⟩
      · have := (hO' m ho).2
        rw [hG1]
        (simp (maxSteps := 2000000) (disch := omega) [go_sem, -List.map_map, hk])
      · have h9 := hH m k hk
        have h8 := gH m k hk
        rw [hG1]
        (simp (maxSteps := 2000000) (disch := omega) [go_sem, -List.map_map, h8])
    clear hG1 hk1 hnx1 g2 g3 gH gL hO' hn1 hnx hG
    obtain ⟨nh, hnh⟩ : ∃ nh, nh = nx := ⟨_, rfl⟩
    obtain ⟨nr, hnr⟩ : ∃ nr, nr = nx + 1 := ⟨_, rfl⟩
    rw [← hnr, ← hnh] at hI
    rw [← hnh]
    clear hnh hnr
    ((repeat refine WpM.seq ?_); have z_ex := True.intro; refine WpM.regPE [] [(0, _), (2, _), (3, _), (6, _), (7, _), (29, _), (30, _), (31, _)] (by (refine s_m [(4, _)] ?_; refine s_q [(29, _)] ?_; refine s_m [] ?_; exact wpS_nil ⟨rfl, rfl⟩)) z_su ?_; clear z_ex)
    ((repeat refine WpM.seq ?_); refine WpM.block ?_)
    refine WpM.loop (fun (i : Nat) fr S => i ≤ ps.length ∧ ∃ nx G b ts O nr, S = ⟨nx, [], G⟩ ∧ buildSt l ps i = .ok (b, ts) ∧ BInv LedAt H n0 L nh nr ts b O G nx ∧ fr = frOf [(0, .d (evs l)), (2, .ptr n0 0), (3, .ptr (n0 + 1) 0), (6, .ptr L 0), (7, .ptr nh 0), (29, .d (.sl (ps.map encPair))), (30, .d (.int .i64 ps.length)), (31, .d (.int .i64 i))]) (fun i => ps.length - i) 0 (St.Le.refl _) (Sub.le z_su) ⟨by omega, _, G1, Bk.empty, [], O, nr, rfl, rfl, hI.same LedAt.same hH (by omega) (fun _ _ _ h => h), rfl⟩ ?_
    clear hI
    rintro i fr S' ⟨hi, nx, G, b, ts, O, nr, rfl, hst, hI, rfl⟩
    refine WpM.known fun hGk => ?_
    have hGk : ∀ m k, G m = some k → m < nx := hGk
    have k2 := hI.r2
    have k3 := hI.r3
    have l1 := hI.l1
    ((repeat refine WpM.seq ?_); have z_ex := True.intro; refine WpM.regPE [] [(0, _), (2, _), (3, _), (6, _), (7, _), (29, _), (30, _), (31, _), (32, _)] (by (refine s_q [(30, _), (31, _)] ?_; exact wpS_nil ⟨rfl, rfl⟩)) z_su ?_; clear z_ex)
    by_cases hit : i < ps.length
    · ((repeat refine WpM.seq ?_); refine WpM.condT (by (simp (maxSteps := 2000000) (disch := omega) [go_sem, -List.map_map, hit])) ?_)
      refine WpM.skip ?_
      ((repeat refine WpM.seq ?_); refine WpM.block ?_)
      obtain ⟨p, hpe⟩ : ∃ p, p = ps[i] := ⟨_, rfl⟩
      have hget : (ps.map encPair)[i]? = some (encPair p) := by simp [hit, hpe]
      have hpo := pair_ok hp hit
      rw [← hpe] at hpo
      have bad : ∀ e, buildStep l i p b ts = .error e → buildV l = .tup [.d (.agg [.sl [], .sl []]), .d (.agg [.int .i64 e.1, .int .i64 e.2])] := fun e he => by
        rw [buildV, buildF_bad hp hit hst (by rw [← hpe]; exact he)]
        rfl
      obtain ⟨hw, htl, h32⟩ := buildSt_wf hp (Nat.le_of_lt hit) hst
      ((repeat refine WpM.seq ?_); have z_ex := (And.intro @hget (And.intro @encPair.eq_1 True.intro)); refine WpM.regPE [] [(0, _), (2, _), (3, _), (6, _), (7, _), (8, _), (9, _), (29, _), (30, _), (31, _)] (by (refine s_m [(31, _)] ?_; refine s_q [(29, _), (31, _)] ?_; refine s_l [(34, _)] ?_; refine s_a [] ?_; refine s_m [(33, _)] ?_; refine s_s [(9, _), (35, _)] ?_; exact wpS_nil ⟨rfl, rfl⟩)) z_su ?_; clear z_ex)
      by_cases h32' : i = 32
      · rw [bad (2, p.from_) (by rw [buildStep, if_pos h32'])]
        have h32i : (i : Int) = 32 := by omega
        ((repeat refine WpM.seq ?_); have z_ex := (And.intro @h32i True.intro); refine WpM.regPE [] [(0, _), (2, _), (3, _), (6, _), (7, _), (9, _), (29, _), (30, _), (31, _), (37, _)] (by (refine s_m [(8, _)] ?_; refine s_q [(36, _)] ?_; exact wpS_nil ⟨rfl, rfl⟩)) z_su ?_; clear z_ex)
        ((repeat refine WpM.seq ?_); refine WpM.condT (by (simp (maxSteps := 2000000) (disch := omega) [go_sem, -List.map_map, h32i])) ?_)
        ((repeat refine WpM.seq ?_); have z_ex := (And.intro @k2 (And.intro @k3 True.intro)); refine WpM.drwPE [] [(2, _), (3, _)] mixed (by kernel_rfl) (by kernel_rfl) [(2, 4)] (by kernel_rfl) (by (refine d_g [] ?_; refine d_f [(9, _)] ?_; refine d_l [(39, _)] ?_; refine d_g [(40, _)] ?_; refine d_s [(2, _), (38, _)] ?_; refine d_s [(3, _), (41, _)] ?_; exact d_end z_mt z_sn)) z_su ?_; clear z_ex)
        refine WpM.ret ?_
        refine ⟨.inr rfl, Upd.nilIn n0 0 (cs := [.nil, .nil]) (by (simp (maxSteps := 2000000) (disch := omega) [go_sem, -List.map_map])) (.inl rfl) (Upd.nilIn n0 1 (cs := [.d (.sl []), .nil]) (by (simp (maxSteps := 2000000) (disch := omega) [go_sem, -List.map_map])) (.inl rfl) (Upd.done ⟨_, (by (simp (maxSteps := 2000000) (disch := omega) [go_sem, -List.map_map, resV, resVs, resV1])), rfl, fun m k _ hk => ?_⟩))⟩
        have h9 := hH _ _ hk
        have h8 := hI.old m k hk
        (simp (maxSteps := 2000000) (disch := omega) [go_sem, -List.map_map, h8])
      · have h32i : ¬ (i : Int) = 32 := by omega
        ((repeat refine WpM.seq ?_); have z_ex := (And.intro @h32i True.intro); refine WpM.regPE [] [(0, _), (2, _), (3, _), (6, _), (7, _), (9, _), (29, _), (30, _), (31, _), (37, _)] (by (refine s_m [(8, _)] ?_; refine s_q [(36, _)] ?_; exact wpS_nil ⟨rfl, rfl⟩)) z_su ?_; clear z_ex)
        ((repeat refine WpM.seq ?_); refine WpM.condF (by (simp (maxSteps := 2000000) (disch := omega) [go_sem, -List.map_map, h32i])) ?_)
        refine WpM.skip ?_
        obtain ⟨e, hee⟩ : ∃ e, e = ev l p.from_ := ⟨_, rfl⟩
        have hfl := hpo.frm
        have hgete : (l.map encEvent)[p.from_]? = some (encEvent e) := by rw [hee, ev_eq hfl]; simp [hfl]
        ((repeat refine WpM.seq ?_); have z_ex := (And.intro @evs.eq_1 (And.intro @hgete (And.intro @hfl (And.intro @encEvent.eq_1 True.intro)))); refine WpM.regPE [] [(0, _), (2, _), (3, _), (6, _), (7, _), (9, _), (10, _), (29, _), (30, _), (31, _)] (by (refine s_m [(0, _)] ?_; refine s_f [(9, _)] ?_; refine s_l [(43, _)] ?_; refine s_q [(42, _), (44, _)] ?_; refine s_l [(45, _)] ?_; refine s_a [] ?_; refine s_s [(10, _), (46, _)] ?_; exact wpS_nil ⟨rfl, rfl⟩)) z_su ?_; clear z_ex)
        ((repeat refine WpM.seq ?_); have z_ex := True.intro; refine WpM.regPE [] [(0, _), (2, _), (3, _), (6, _), (7, _), (9, _), (10, _), (29, _), (30, _), (31, _), (48, _), (49, _), (50, _)] (by (refine s_f [(10, _)] ?_; refine s_l [(47, _)] ?_; refine s_q [(48, _)] ?_; refine s_m [] ?_; exact wpS_nil ⟨rfl, rfl⟩)) z_su ?_; clear z_ex)
        refine WpM.norm ?_
        intro nx2 G2 hnx2 hG2 hk2
        have hnx2 : nx2 = nx + 20 := hnx2
        have hpb : G2 (nx + 4) = some (.box [.d (.int .i64 p.from_), .d (.int .i64 p.to_), .d (.int .i64 p.status)]) := by rw [hG2]; (simp (maxSteps := 2000000) (disch := omega) [go_sem, -List.map_map])
        have heb : G2 (nx + 14) = some (.box [.d (.int .i64 e.proc), .d (.int .i64 e.kind), .d (.sl (e.calls.map encCall))]) := by rw [hG2]; (simp (maxSteps := 2000000) (disch := omega) [go_sem, -List.map_map])
        have hI2 : BInv LedAt H n0 L nh nr ts b O G2 nx2 := hI.same LedAt.same hH (by omega) fun m k hm hk => by rw [hG2]; (simp (maxSteps := 2000000) (disch := omega) [go_sem, -List.map_map, hk])
        have hO1 : ¬ O (nx + 4) := fun h => by have := (hI.oo _ h).2; omega
        have hO2 : ¬ O (nx + 14) := fun h => by have := (hI.oo _ h).2; omega
        have hlp : nx + 4 < nx2 := by omega
        have hlb : nx + 14 < nx2 := by omega
        have hn04 : n0 + 2 ≤ nx + 4 := by omega
        have hl2 : nr < nx + 4 := by have := hI.l2.2; omega
        obtain ⟨np, hnp⟩ : ∃ np, np = nx + 4 := ⟨_, rfl⟩
        obtain ⟨nb, hnb⟩ : ∃ nb, nb = nx + 14 := ⟨_, rfl⟩
        have hnpb : np ≠ nb := by omega
        have hl3 : nr < nb := by omega
        have hl4 : n0 + 2 ≤ nb := by omega
        rw [← hnp] at hpb hO1 hlp hn04 hl2 ⊢
        rw [← hnb] at heb hO2 hlb ⊢
        clear hG2 hk2 hnx2 hI hGk hnp hnb l1 k2 k3 hget hgete
        have hcok := (eventOk_spec hpo.fok).2.2.2
        have h16 := (eventOk_spec hpo.fok).2.2.1
        rw [← hee] at hcok h16
        ((repeat refine WpM.seq ?_); refine WpM.block ?_)
        refine WpM.loop (fun (k : Nat) fr S => k ≤ e.calls.length ∧ ∃ nx G b3 O, S = ⟨nx, [], G⟩ ∧ entersE b (e.calls.take k) p.from_ = .ok b3 ∧ BInv LedAt H n0 L nh nr ts b3 O G nx ∧ G np = some (.box [.d (.int .i64 p.from_), .d (.int .i64 p.to_), .d (.int .i64 p.status)]) ∧ G nb = some (.box [.d (.int .i64 e.proc), .d (.int .i64 e.kind), .d (.sl (e.calls.map encCall))]) ∧ ¬ O np ∧ ¬ O nb ∧ np < nx ∧ nb < nx ∧ fr = frOf [(0, .d (evs l)), (2, .ptr n0 0), (3, .ptr (n0 + 1) 0), (6, .ptr L 0), (7, .ptr nh 0), (9, .ptr np 0), (10, .ptr nb 0), (29, .d (.sl (ps.map encPair))), (30, .d (.int .i64 ps.length)), (31, .d (.int .i64 i)), (48, .d (.sl (e.calls.map encCall))), (49, .d (.int .i64 e.calls.length)), (50, .d (.int .i64 k))]) (fun k => e.calls.length - k) 0 (St.Le.refl _) (Sub.le z_su) ⟨by omega, _, G2, b, O, rfl, rfl, hI2, hpb, heb, hO1, hO2, hlp, hlb, rfl⟩ ?_
        clear hpb heb hI2 hO1 hO2 hlp hlb
        rintro k fr S' ⟨hk, nx3, G, b3, O, rfl, hent, hI, hpb, heb, hO1, hO2, hlp, hlb, rfl⟩
        refine WpM.known fun hGk => ?_
        have hGk : ∀ m k, G m = some k → m < nx3 := hGk
        ((repeat refine WpM.seq ?_); have z_ex := True.intro; refine WpM.regPE [] [(0, _), (2, _), (3, _), (6, _), (7, _), (9, _), (10, _), (29, _), (30, _), (31, _), (48, _), (49, _), (50, _), (51, _)] (by (refine s_q [(49, _), (50, _)] ?_; exact wpS_nil ⟨rfl, rfl⟩)) z_su ?_; clear z_ex)
        by_cases hkt : k < e.calls.length
        · ((repeat refine WpM.seq ?_); refine WpM.condT (by (simp (maxSteps := 2000000) (disch := omega) [go_sem, -List.map_map, hkt])) ?_)
          refine WpM.skip ?_
          ((repeat refine WpM.seq ?_); refine WpM.block ?_)
          obtain ⟨c, hc⟩ : ∃ c, c = e.calls[k] := ⟨_, rfl⟩
          have hgetc : (e.calls.map encCall)[k]? = some (encCall c) := by simp [hkt, hc]
          obtain ⟨hk1, hk8⟩ := callOk_kind (hcok c (hc ▸ List.getElem_mem _))
          have hnext := entersE_take e.calls b p.from_ k hkt b3 hent
          rw [← hc] at hnext
          have hwf3 := entersE_wf _ hw hent
          ((repeat refine WpM.seq ?_); have z_ex := (And.intro @hgetc (And.intro @encCall.eq_1 True.intro)); refine WpM.regPE [] [(0, _), (2, _), (3, _), (6, _), (7, _), (9, _), (10, _), (12, _), (29, _), (30, _), (31, _), (48, _), (49, _), (50, _)] (by (refine s_q [(48, _), (50, _)] ?_; refine s_l [(52, _)] ?_; refine s_a [] ?_; refine s_s [(12, _), (53, _)] ?_; exact wpS_nil ⟨rfl, rfl⟩)) z_su ?_; clear z_ex)
          cases he : enterB b3 c p.from_ with
          | error er =>
            rw [he] at hnext
            have hbv := bad (er, p.from_) (by rw [buildStep, if_neg h32', ← hee, entersE_stop e.calls b p.from_ (k + 1) er hnext])
            rw [hbv]
            ((repeat refine WpM.seq ?_); have z_ex := (And.intro @hpb (And.intro @encCall.eq_1 True.intro)); refine WpM.regP [] ?_; intro K hK; refine s_m [(6, _)] ?_; refine s_l [(12, _)] ?_; refine s_f [(9, _)] ?_; refine s_l [(56, _)] ?_; refine s_call (callOf_eq rfl rfl rfl (mlk_tmp z_lk (mlk_tmp z_lk (mlk_tmp z_lk mlk_nil)))) (enter48_in hwf3 c hk1 hk8 p.from_ _ he hI.led (fun m hm => (hI.oo m hm).2) hGk _ _ _ (by omega) (by omega)) rfl rfl z_ip ?_; rintro _ z_S ⟨hnx, old, rfl, hne2⟩; refine s_put z_fp ?_; refine s_m [(58, _)] ?_; refine s_endE [(0, _), (2, _), (3, _), (6, _), (7, _), (9, _), (10, _), (13, _), (29, _), (30, _), (31, _), (48, _), (49, _), (50, _)] hK z_su ?_; clear hK K; clear z_ex)
            refine WpM.norm ?_
            intro nx4 G4 hnx4 hG4 hk4
            have hnx4 : nx4 = z_S.next + 1 := hnx4
            have hG4 : G4 = z_S.get := hG4
            have o2 : ¬ O n0 := fun h => by have := (hI.oo _ h).1; omega
            have o3 : ¬ O (n0 + 1) := fun h => by have := (hI.oo _ h).1; omega
            have k2 : G4 n0 = some (.box [.nil, .nil]) := by rw [hG4]; exact old n0 _ o2 hI.r2
            have k3 : G4 (n0 + 1) = some (.box [.d (.int .i64 0), .d (.int .i64 0)]) := by rw [hG4]; exact old _ _ o3 hI.r3
            have kp : G4 np = some (.box [.d (.int .i64 p.from_), .d (.int .i64 p.to_), .d (.int .i64 p.status)]) := by rw [hG4]; exact old np _ hO1 hpb
            have kH : ∀ m k, H m = some k → G4 m = some k := fun m k hk => by rw [hG4]; exact old m k (fun h => by have := (hI.oo _ h).1; have := hH m k hk; omega) (hI.old m k hk)
            clear old hG4 hk4 hGk
            ((repeat refine WpM.seq ?_); have z_ex := (And.intro @hne2 True.intro); refine WpM.regPE [] [(0, _), (2, _), (3, _), (6, _), (7, _), (9, _), (10, _), (13, _), (29, _), (30, _), (31, _), (48, _), (49, _), (50, _), (60, _)] (by (refine s_m [(13, _)] ?_; refine s_q [(59, _)] ?_; exact wpS_nil ⟨rfl, rfl⟩)) z_su ?_; clear z_ex)
            ((repeat refine WpM.seq ?_); refine WpM.condT (by (simp (maxSteps := 2000000) (disch := omega) [go_sem, -List.map_map, hne2])) ?_)
            ((repeat refine WpM.seq ?_); have z_ex := (And.intro @k2 (And.intro @k3 (And.intro @kp True.intro))); refine WpM.drwPE [] [(2, _), (3, _)] mixed (by kernel_rfl) (by kernel_rfl) [(3, 5)] (by kernel_rfl) (by (refine d_g [] ?_; refine d_m [(13, _)] ?_; refine d_f [(9, _)] ?_; refine d_l [(63, _)] ?_; refine d_g [(62, _), (64, _)] ?_; refine d_s [(2, _), (61, _)] ?_; refine d_s [(3, _), (65, _)] ?_; exact d_end z_mt z_sn)) z_su ?_; clear z_ex)
            refine WpM.ret ?_
            refine ⟨.inr rfl, Upd.nilIn n0 0 (cs := [.nil, .nil]) (by (simp (maxSteps := 2000000) (disch := omega) [go_sem, -List.map_map])) (.inl rfl) (Upd.nilIn n0 1 (cs := [.d (.sl []), .nil]) (by (simp (maxSteps := 2000000) (disch := omega) [go_sem, -List.map_map])) (.inl rfl) (Upd.done ⟨_, (by (simp (maxSteps := 2000000) (disch := omega) [go_sem, -List.map_map, resV, resVs, resV1])), rfl, fun m k _ hk => ?_⟩))⟩
            have h9 := hH _ _ hk
            have h8 := kH m k hk
            (simp (maxSteps := 2000000) (disch := omega) [go_sem, -List.map_map, h8])
          | ok b4 =>
            rw [he] at hnext
            ((repeat refine WpM.seq ?_); have z_ex := (And.intro @hpb (And.intro @encCall.eq_1 True.intro)); refine WpM.regP [] ?_; intro K hK; refine s_m [(6, _)] ?_; refine s_l [(12, _)] ?_; refine s_f [(9, _)] ?_; refine s_l [(56, _)] ?_; refine s_call (callOf_eq rfl rfl rfl (mlk_tmp z_lk (mlk_tmp z_lk (mlk_tmp z_lk mlk_nil)))) (enter48_in hwf3 c hk1 hk8 p.from_ _ he hI.led (fun m hm => (hI.oo m hm).2) hGk _ _ _ (by omega) (by omega)) rfl rfl z_ip ?_; rintro _ z_S ⟨hnx, old, rfl, O4, hO4, hLed4⟩; refine s_put z_fp ?_; refine s_m [(58, _)] ?_; refine s_endE [(0, _), (2, _), (3, _), (6, _), (7, _), (9, _), (10, _), (13, _), (29, _), (30, _), (31, _), (48, _), (49, _), (50, _)] hK z_su ?_; clear hK K; clear z_ex)
            refine WpM.norm ?_
            intro nx4 G4 hnx4 hG4 hk4
            have hnx4 : nx4 = z_S.next + 1 := hnx4
            have hG4 : G4 = z_S.get := hG4
            have hI4 : BInv LedAt H n0 L nh nr ts b4 O4 G4 nx4 := by
              refine hI.enter hH (by omega) (fun m k ho hk => by rw [hG4]; exact old m k ho hk) (fun m hm => ?_) (by rw [hG4]; exact hLed4)
              have := hO4 m hm
              exact ⟨this.1, by omega⟩
            have kp := old np _ hO1 hpb
            have ke := old nb _ hO2 heb
            rw [← hG4] at kp ke
            have p1 : ¬ O4 np := fun h => by
              rcases (hO4 np h).1 with h1 | h1
              · exact hO1 h1
              · omega
            have p2 : ¬ O4 nb := fun h => by
              rcases (hO4 nb h).1 with h1 | h1
              · exact hO2 h1
              · omega
            clear old hG4 hk4 hO4 hLed4 hI hpb heb hO1 hO2
            ((repeat refine WpM.seq ?_); have z_ex := True.intro; refine WpM.regPE [] [(0, _), (2, _), (3, _), (6, _), (7, _), (9, _), (10, _), (13, _), (29, _), (30, _), (31, _), (48, _), (49, _), (50, _), (60, _)] (by (refine s_m [(13, _)] ?_; refine s_q [(59, _)] ?_; exact wpS_nil ⟨rfl, rfl⟩)) z_su ?_; clear z_ex)
            ((repeat refine WpM.seq ?_); refine WpM.condF (by (simp (maxSteps := 2000000) (disch := omega) [go_sem, -List.map_map])) ?_)
            refine WpM.skip ?_
            ((repeat refine WpM.seq ?_); have z_ex := (And.intro @wrap_id True.intro); refine WpM.regPE [] [(0, _), (2, _), (3, _), (6, _), (7, _), (9, _), (10, _), (29, _), (30, _), (31, _), (48, _), (49, _), (50, _)] (by (refine s_q [(50, _)] ?_; refine s_m [(66, _)] ?_; exact wpS_nil ⟨rfl, rfl⟩)) z_su ?_; clear z_ex)
            exact round_end (x' := k + 1) (St.Le.refl _) (Sub.le z_su) ⟨by omega, _, G4, b4, O4, rfl, hnext, hI4.same LedAt.same hH (by omega) (fun _ _ _ h => h), kp, ke, p1, p2, by omega, by omega, rfl⟩ (by omega)
        · ((repeat refine WpM.seq ?_); refine WpM.condF (by (simp (maxSteps := 2000000) (disch := omega) [go_sem, -List.map_map, hkt])) ?_)
          (refine WpM.exit ?_; (repeat (with_reducible (first | refine thenM_exit ?_ | refine blockM_eq ?_ | refine blockM_ne (by decide) ?_))))
          obtain rfl : k = e.calls.length := by omega
          rw [List.take_length] at hent
          have hkeys := hpo.keys hw (by rw [← hee]; exact hent)
          have hcvs := callsFor_ok hok hpo
          have hcl16 := hpo.calls16
          have hstep : buildStep l i p b ts = .ok (b3, ts ++ [txnOf l p b3]) := by rw [buildStep, if_neg h32', ← hee, hent]
          have hnextst : buildSt l ps (i + 1) = .ok (b3, ts ++ [txnOf l p b3]) := by rw [buildSt_succ hst hit, ← hpe]; exact hstep
          clear bad hstep hcok hst
          ((repeat refine WpM.seq ?_); have z_ex := (And.intro @heb (And.intro @hpb True.intro)); refine WpM.regPE [] [(0, _), (2, _), (3, _), (6, _), (7, _), (9, _), (10, _), (14, _), (29, _), (30, _), (31, _)] (by (refine s_f [(10, _)] ?_; refine s_l [(67, _)] ?_; refine s_f [(9, _)] ?_; refine s_l [(69, _)] ?_; refine s_f [(9, _)] ?_; refine s_l [(71, _)] ?_; refine s_f [(9, _)] ?_; refine s_l [(73, _)] ?_; refine s_g [(68, _), (70, _), (72, _), (74, _)] ?_; refine s_a [] ?_; refine s_s [(14, _), (75, _)] ?_; exact wpS_nil ⟨rfl, rfl⟩)) z_su ?_; clear z_ex)
          refine Upd.wp (Upd.ghostIn (nx3 + 10) 4 5 (cs := [.d (.int .i64 e.proc), .d (.int .i64 p.status), .d (.int .i64 p.from_), .d (.int .i64 p.to_), .nil]) (by (simp (maxSteps := 2000000) (disch := omega) [go_sem, -List.map_map])) (.inl (by rfl)) (Upd.done ?_))
          refine WpM.less (le_cut (n0 := nx3) (n' := nx3 + 13) (l' := [(nx3 + 10, some (.box [.d (.int .i64 e.proc), .d (.int .i64 p.status), .d (.int .i64 p.from_), .d (.int .i64 p.to_), .ms (nx3 + 12) 5 0 0])), (nx3 + 12, some (.row 5 []))]) hGk (by (simp (maxSteps := 2000000) (disch := omega) [go_sem, -List.map_map])) (Nat.le_refl _) (by (simp (maxSteps := 2000000) (disch := omega) [go_sem, -List.map_map]))) (Sub.le (l' := [(0, .d (evs l)), (2, .ptr n0 0), (3, .ptr (n0 + 1) 0), (6, .ptr L 0), (7, .ptr nh 0), (9, .ptr np 0), (10, .ptr nb 0), (14, .ptr (nx3 + 10) 0), (29, .d (.sl (ps.map encPair))), (30, .d (.int .i64 ps.length)), (31, .d (.int .i64 i))]) z_su) ?_
          ((repeat refine WpM.seq ?_); have z_ex := (And.intro @heb True.intro); refine WpM.regPE [] [(0, _), (2, _), (3, _), (6, _), (7, _), (9, _), (14, _), (15, _), (29, _), (30, _), (31, _)] (by (refine s_f [(10, _)] ?_; refine s_l [(76, _)] ?_; refine s_m [(77, _)] ?_; exact wpS_nil ⟨rfl, rfl⟩)) z_su ?_; clear z_ex)
          obtain ⟨cs, hcs⟩ : ∃ cs, cs = callsFor l p := ⟨_, rfl⟩
          rw [← hcs] at hkeys hcvs hcl16
          refine WpM.seq ?_
          refine wpMid (Mid := fun (fr : Fr) (S' : St) => ∃ nx5, nx3 + 13 ≤ nx5 ∧ S' = ⟨nx5, [(nx3 + 10, some (.box [.d (.int .i64 e.proc), .d (.int .i64 p.status), .d (.int .i64 p.from_), .d (.int .i64 p.to_), .ms (nx3 + 12) 5 0 0])), (nx3 + 12, some (.row 5 []))], G⟩ ∧ FrLe fr (frOf [(0, .d (evs l)), (2, .ptr n0 0), (3, .ptr (n0 + 1) 0), (6, .ptr L 0), (7, .ptr nh 0), (14, .ptr (nx3 + 10) 0), (29, .d (.sl (ps.map encPair))), (30, .d (.int .i64 ps.length)), (31, .d (.int .i64 i)), (15, .d (.sl (cs.map encCall)))])) ?_ ?_
          · by_cases hs1 : p.status = 1
            · obtain ⟨t, ht1, ht2, ht3, ht4⟩ := hpo.to_ hs1
              have hcf : cs = (ev l t).calls := by rw [hcs, callsFor, if_pos hs1, ht1]; simp
              obtain ⟨e2, he2⟩ : ∃ e2, e2 = ev l t := ⟨_, rfl⟩
              have hgete2 : (l.map encEvent)[t]? = some (encEvent e2) := by rw [he2, ev_eq ht2]; simp [ht2]
              rw [← he2] at hcf
              subst hcf
              ((repeat refine WpM.seq ?_); have z_ex := (And.intro @hpb (And.intro @hs1 True.intro)); refine WpM.regPE [] [(0, _), (2, _), (3, _), (6, _), (7, _), (9, _), (14, _), (15, _), (29, _), (30, _), (31, _), (80, _)] (by (refine s_f [(9, _)] ?_; refine s_l [(78, _)] ?_; refine s_q [(79, _)] ?_; exact wpS_nil ⟨rfl, rfl⟩)) z_su ?_; clear z_ex)
              ((repeat refine WpM.seq ?_); refine WpM.condT (by (simp (maxSteps := 2000000) (disch := omega) [go_sem, -List.map_map, hs1])) ?_)
              ((repeat refine WpM.seq ?_); have z_ex := (And.intro @hpb (And.intro @ht1 (And.intro @evs.eq_1 (And.intro @hgete2 (And.intro @ht2 (And.intro @encEvent.eq_1 True.intro)))))); refine WpM.regPE [] [(0, _), (2, _), (3, _), (6, _), (7, _), (14, _), (15, _), (29, _), (30, _), (31, _)] (by (refine s_m [(0, _)] ?_; refine s_f [(9, _)] ?_; refine s_l [(82, _)] ?_; refine s_q [(81, _), (83, _)] ?_; refine s_f [(84, _)] ?_; refine s_l [(85, _)] ?_; refine s_m [(86, _)] ?_; exact wpS_nil ⟨rfl, rfl⟩)) z_su ?_; clear z_ex)
              exact ⟨_, (by show nx3 + 13 ≤ nx3 + _; omega), rfl, Sub.le z_su⟩
            · have hcf : cs = e.calls := by rw [hcs, callsFor, if_neg hs1, hee]
              subst hcf
              ((repeat refine WpM.seq ?_); have z_ex := (And.intro @hpb (And.intro @hs1 True.intro)); refine WpM.regPE [] [(0, _), (2, _), (3, _), (6, _), (7, _), (9, _), (14, _), (15, _), (29, _), (30, _), (31, _), (80, _)] (by (refine s_f [(9, _)] ?_; refine s_l [(78, _)] ?_; refine s_q [(79, _)] ?_; exact wpS_nil ⟨rfl, rfl⟩)) z_su ?_; clear z_ex)
              ((repeat refine WpM.seq ?_); refine WpM.condF (by (simp (maxSteps := 2000000) (disch := omega) [go_sem, -List.map_map, hs1])) ?_)
              refine WpM.skip ?_
              exact ⟨_, (by show nx3 + 13 ≤ nx3 + _; omega), rfl, Sub.le z_su⟩
          rintro fr S' ⟨nx5, hnx5, rfl, hfr⟩
          refine WpM.less (St.Le.refl _) hfr ?_
          clear hfr hpb heb hO1 hO2 hlp hlb
          ((repeat refine WpM.seq ?_); have z_ex := True.intro; refine WpM.regPE [] [(0, _), (2, _), (3, _), (6, _), (7, _), (14, _), (29, _), (30, _), (31, _), (87, _), (88, _), (89, _)] (by (refine s_m [(15, _)] ?_; refine s_q [(87, _)] ?_; refine s_m [] ?_; exact wpS_nil ⟨rfl, rfl⟩)) z_su ?_; clear z_ex)
          ((repeat refine WpM.seq ?_); refine WpM.block ?_)
          obtain ⟨nk, na, nt, nf, ni, am, fm, im, r, hN⟩ := hI.led
          have kL := hN.box
          have kA := hN.gat
          have gL : L < nx3 := (hI.oo _ hN.oL).2
          have gA : na < nx3 := (hI.oo _ hN.oa).2
          have hat := hN.at_
          have hst' : ∀ c : CallD, encOp (opOf b3 c) = .agg [.int .i64 c.kind, .int .i64 (((findN b3.keys c.key).getD 0 : Nat) : Int), .int .i64 c.arg, .bool c.got, .sl (c.vals.map (D.int .i64))] := fun c => rfl
          clear hN
          refine WpM.loop (fun (k : Nat) fr S => k ≤ cs.length ∧ ∃ nx nr2 ys, nx3 + 12 ≤ nr2 ∧ nr2 < nx ∧ ys = ((cs.take k).map fun c => V.d (encOp (opOf b3 c))) ∧ fr = frOf [(0, .d (evs l)), (2, .ptr n0 0), (3, .ptr (n0 + 1) 0), (6, .ptr L 0), (7, .ptr nh 0), (14, .ptr (nx3 + 10) 0), (29, .d (.sl (ps.map encPair))), (30, .d (.int .i64 ps.length)), (31, .d (.int .i64 i)), (87, .d (.sl (cs.map encCall))), (88, .d (.int .i64 cs.length)), (89, .d (.int .i64 k))] ∧ S = ⟨nx, [(nx3 + 10, some (.box [.d (.int .i64 e.proc), .d (.int .i64 p.status), .d (.int .i64 p.from_), .d (.int .i64 p.to_), .ms nr2 5 0 ys.length])), (nr2, some (.row 5 ys))], G⟩) (fun k => cs.length - k) 0 (St.Le.refl _) (Sub.le z_su) ⟨by omega, _, nx3 + 12, [], by omega, by show nx3 + 12 < nx5 + _; omega, by simp, rfl, rfl⟩ ?_
          rintro k fr S' ⟨hk, nx6, nr2, ys, hnr, hnx6, hys, rfl, rfl⟩
          have hyl : ys.length = k := by rw [hys]; simp; omega
          ((repeat refine WpM.seq ?_); have z_ex := True.intro; refine WpM.regPE [] [(0, _), (2, _), (3, _), (6, _), (7, _), (14, _), (29, _), (30, _), (31, _), (87, _), (88, _), (89, _), (90, _)] (by (refine s_q [(88, _), (89, _)] ?_; exact wpS_nil ⟨rfl, rfl⟩)) z_su ?_; clear z_ex)
          by_cases hkt : k < cs.length
          · ((repeat refine WpM.seq ?_); refine WpM.condT (by (simp (maxSteps := 2000000) (disch := omega) [go_sem, -List.map_map, hkt])) ?_)
            refine WpM.skip ?_
            ((repeat refine WpM.seq ?_); refine WpM.block ?_)
            obtain ⟨c, hc⟩ : ∃ c, c = cs[k] := ⟨_, rfl⟩
            have hgetc : (cs.map encCall)[k]? = some (encCall c) := by simp [hkt, hc]
            obtain ⟨kk, hkk⟩ := hkeys c (hc ▸ List.getElem_mem _)
            have hatc : am (.str c.key) = some (.d (.int .i64 kk)) := by rw [hat, hkk]; rfl
            have hcl := clone49' c.vals (hcvs c (hc ▸ List.getElem_mem _)).2.2.2.1
            have hys' : ys ++ [V.d (encOp (opOf b3 c))] = (cs.take (k + 1)).map (fun c => V.d (encOp (opOf b3 c))) := by rw [hys, List.take_succ_eq_append_getElem hkt, ← hc]; simp
            rw [hst' c, hkk, Option.getD_some] at hys'
            ((repeat refine WpM.seq ?_); have z_ex := (And.intro @hgetc (And.intro @encCall.eq_1 True.intro)); refine WpM.regPE [] [(0, _), (2, _), (3, _), (6, _), (7, _), (14, _), (17, _), (29, _), (30, _), (31, _), (87, _), (88, _), (89, _)] (by (refine s_q [(87, _), (89, _)] ?_; refine s_l [(91, _)] ?_; refine s_a [] ?_; refine s_s [(17, _), (92, _)] ?_; exact wpS_nil ⟨rfl, rfl⟩)) z_su ?_; clear z_ex)
            ((repeat refine WpM.seq ?_); have z_ex := (And.intro @kL (And.intro @kA (And.intro @hatc True.intro))); refine WpM.drwPE [] [(0, _), (2, _), (3, _), (6, _), (7, _), (14, _), (29, _), (30, _), (31, _), (87, _), (88, _), (89, _)] mixed (by kernel_rfl) (by kernel_rfl) [(1, 17), (3, 17), (7, 17), (9, 17), (10, 17), (12, 17), (14, 17), (1, 19)] (by kernel_rfl) (by (refine d_f [(14, _)] ?_; refine d_l [(93, _)] ?_; refine d_f [(17, _)] ?_; refine d_l [(95, _)] ?_; refine d_m [(6, _)] ?_; refine d_m [(97, _)] ?_; refine d_f [(98, _)] ?_; refine d_l [(99, _)] ?_; refine d_f [(17, _)] ?_; refine d_l [(101, _)] ?_; refine d_p [(100, _), (102, _)] ?_; refine d_f [(17, _)] ?_; refine d_l [(104, _)] ?_; refine d_f [(17, _)] ?_; refine d_l [(106, _)] ?_; refine d_f [(17, _)] ?_; refine d_l [(108, _)] ?_; refine d_pure (callOf_eq rfl rfl rfl (mlk_tmp z_lk mlk_nil)) (hcl) rfl rfl z_ip rfl z_fp ?_; refine d_g [(96, _), (103, _), (105, _), (107, _), (110, _)] ?_; refine d_q [(111, _)] ?_; refine d_q [(94, _), (112, _)] ?_; refine d_f [(14, _)] ?_; refine d_s [(113, _), (114, _)] ?_; exact d_end z_mt z_sn)) z_su ?_; clear z_ex)
            ((repeat refine WpM.seq ?_); have z_ex := (And.intro @wrap_id True.intro); refine WpM.regPE [] [(0, _), (2, _), (3, _), (6, _), (7, _), (14, _), (29, _), (30, _), (31, _), (87, _), (88, _), (89, _)] (by (refine s_q [(89, _)] ?_; refine s_m [(115, _)] ?_; exact wpS_nil ⟨rfl, rfl⟩)) z_su ?_; clear z_ex)
            exact round_end (x' := k + 1) (le_cut (n0 := nx3) (l' := [(nx3 + 10, some (.box [.d (.int .i64 e.proc), .d (.int .i64 p.status), .d (.int .i64 p.from_), .d (.int .i64 p.to_), .ms (nx6 + 25) 5 0 (ys.length + 1)])), (nx6 + 25, some (.row 5 (ys ++ [V.d (.agg [.int .i64 c.kind, .int .i64 kk, .int .i64 c.arg, .bool c.got, .sl (c.vals.map (D.int .i64))])])))]) hGk (by (simp (maxSteps := 2000000) (disch := omega) [go_sem, -List.map_map]); omega) (Nat.le_refl _) (by (simp (maxSteps := 2000000) (disch := omega) [go_sem, -List.map_map]))) (Sub.le z_su) ⟨by omega, nx6 + 30, nx6 + 25, _, by omega, by omega, hys', rfl, by (simp (maxSteps := 2000000) (disch := omega) [go_sem, -List.map_map])⟩ (by omega)
          · ((repeat refine WpM.seq ?_); refine WpM.condF (by (simp (maxSteps := 2000000) (disch := omega) [go_sem, -List.map_map, hkt])) ?_)
            (refine WpM.exit ?_; (repeat (with_reducible (first | refine thenM_exit ?_ | refine blockM_eq ?_ | refine blockM_ne (by decide) ?_))))
            obtain rfl : k = cs.length := by omega
            rw [List.take_length] at hys
            have htx : encTxn (txnOf l p b3) = .agg [.int .i64 e.proc, .int .i64 p.status, .int .i64 p.from_, .int .i64 p.to_, .sl (cs.map fun c => encOp (opOf b3 c))] := by simp [encTxn, txnOf, ← hcs, ← hee, List.map_map, Function.comp_def]
            have k5 := hI.hb
            have k6 := hI.hr
            have hn2 := hI.l1
            have hn4 := hI.l2
            have hts32 : ts.length ≤ 32 := by omega
            have e6 : nh ≠ nr := fun e => by rw [e, k6] at k5; cases k5
            have htk : (ts.map fun t => V.d (encTxn t)).take ts.length = ts.map fun t => V.d (encTxn t) := List.take_of_length_le (by simp)
            refine Upd.wp (Upd.freezeIn (nx3 + 10) 4 (cs := [.d (.int .i64 e.proc), .d (.int .i64 p.status), .d (.int .i64 p.from_), .d (.int .i64 p.to_), .ms nr2 5 0 ys.length]) (xs := ys) (cs.map fun c => encOp (opOf b3 c)) (by (simp (maxSteps := 2000000) (disch := omega) [go_sem, -List.map_map])) (by rfl) (by (simp (maxSteps := 2000000) (disch := omega) [go_sem, -List.map_map])) (by rw [List.drop_zero, List.take_length, hys, List.map_map]; rfl) (by simp [hys]) (Upd.done ?_))
            refine WpM.less (le_cut (n0 := nx3) (n' := nx6 + 1) (l' := [(nx3 + 10, some (.box [.d (.int .i64 e.proc), .d (.int .i64 p.status), .d (.int .i64 p.from_), .d (.int .i64 p.to_), .d (.sl (cs.map fun c => encOp (opOf b3 c)))]))]) hGk (by (simp (maxSteps := 2000000) (disch := omega) [go_sem, -List.map_map]); omega) (Nat.le_refl _) (by (simp (maxSteps := 2000000) (disch := omega) [go_sem, -List.map_map]))) (Sub.le (l' := [(0, .d (evs l)), (2, .ptr n0 0), (3, .ptr (n0 + 1) 0), (6, .ptr L 0), (7, .ptr nh 0), (14, .ptr (nx3 + 10) 0), (29, .d (.sl (ps.map encPair))), (30, .d (.int .i64 ps.length)), (31, .d (.int .i64 i))]) z_su) ?_
            ((repeat refine WpM.seq ?_); have z_ex := (And.intro @k5 (And.intro @k6 (And.intro @htk True.intro))); refine WpM.regPE [] [(0, _), (2, _), (3, _), (6, _), (7, _), (29, _), (30, _), (31, _)] (by (refine s_f [(7, _)] ?_; refine s_l [(116, _)] ?_; refine s_l [(14, _)] ?_; refine s_q [(118, _)] ?_; refine s_q [(117, _), (119, _)] ?_; refine s_f [(7, _)] ?_; refine s_s [(120, _), (121, _)] ?_; exact wpS_nil ⟨rfl, rfl⟩)) z_su ?_; clear z_ex)
            refine WpM.norm ?_
            intro nx7 G7 hnx7 hG7 hk7
            have hnx7 : nx7 = nx6 + 8 := hnx7
            have hI7 : BInv LedAt H n0 L nh (nx6 + 5) (ts ++ [txnOf l p b3]) b3 O G7 nx7 := by
              refine hI.push LedAt.same hH (by omega) (by omega) (by rw [hG7]; (simp (maxSteps := 2000000) (disch := omega) [go_sem, -List.map_map])) (by rw [hG7, htx]; (simp (maxSteps := 2000000) (disch := omega) [go_sem, -List.map_map])) fun m q hm h1 h2 hq => ?_
              rw [hG7]
              (simp (maxSteps := 2000000) (disch := omega) [go_sem, -List.map_map, hq])
            clear hG7 hk7 k5 k6 hI htx htk hys kL kA
            ((repeat refine WpM.seq ?_); have z_ex := (And.intro @wrap_id True.intro); refine WpM.regPE [] [(0, _), (2, _), (3, _), (6, _), (7, _), (29, _), (30, _), (31, _)] (by (refine s_q [(31, _)] ?_; refine s_m [(122, _)] ?_; exact wpS_nil ⟨rfl, rfl⟩)) z_su ?_; clear z_ex)
            exact round_end (x' := i + 1) (St.Le.refl _) (Sub.le z_su) ⟨by omega, _, G7, b3, _, O, nx6 + 5, rfl, hnextst, hI7.same LedAt.same hH (by omega) (fun _ _ _ h => h), rfl⟩ (by omega)
    · ((repeat refine WpM.seq ?_); refine WpM.condF (by (simp (maxSteps := 2000000) (disch := omega) [go_sem, -List.map_map, hit])) ?_)
      (refine WpM.exit ?_; (repeat (with_reducible (first | refine thenM_exit ?_ | refine blockM_eq ?_ | refine blockM_ne (by decide) ?_))))
      obtain rfl : i = ps.length := by omega
      have hbv : buildV l = .tup [.d (.agg [.sl (b.keys.map D.str), .sl (ts.map encTxn)]), .d (.agg [.int .i64 0, .int .i64 0])] := by rw [buildV, buildF_ok hp hst]; rfl
      rw [hbv]
      obtain ⟨nk, na, nt, nf, ni, am, fm, im, r, hN⟩ := hI.led
      have kL := hN.box
      have kk := hN.keys
      have gL : L < nx := (hI.oo _ hN.oL).2
      have gk : nk < nx := (hI.oo _ hN.ok).2
      have k5 := hI.hb
      have k6 := hI.hr
      have hn4 := hI.l2
      have oL := (hI.oo _ hN.oL).1
      have ok1 := (hI.oo _ hN.ok).1
      have e1 : L ≠ nh := fun e => hI.o1 (e ▸ hN.oL)
      have e2 : L ≠ nr := fun e => hI.o2 (e ▸ hN.oL)
      have e3 : nk ≠ nh := fun e => hI.o1 (e ▸ hN.ok)
      have e4 : nk ≠ nr := fun e => hI.o2 (e ▸ hN.ok)
      have e5 : L ≠ nk := hN.ne.1
      have e6 : nh ≠ nr := fun e => by rw [e, k6] at k5; cases k5
      clear hN
      refine Upd.wp (Upd.freezeIn L 0 (cs := [.ms nk 1 0 b.keys.length, .map na, .ms nt 1 0 b.types.length, .map nf, .map ni]) (xs := b.keys.map fun s => .d (.str s)) (b.keys.map D.str) (by (simp (maxSteps := 2000000) (disch := omega) [go_sem, -List.map_map, kL])) (by rfl) (by (simp (maxSteps := 2000000) (disch := omega) [go_sem, -List.map_map, kk])) (by rw [List.drop_zero, List.take_of_length_le (by simp), List.map_map]; rfl) (by simp) (Upd.freezeIn nh 1 (cs := [.nil, .ms nr 5 0 ts.length]) (xs := ts.map fun t => .d (encTxn t)) (ts.map encTxn) (by (simp (maxSteps := 2000000) (disch := omega) [go_sem, -List.map_map, k5])) (by rfl) (by (simp (maxSteps := 2000000) (disch := omega) [go_sem, -List.map_map, k6])) (by rw [List.drop_zero, List.take_of_length_le (by simp), List.map_map]; rfl) (by simp) (Upd.done ?_)))
      refine WpM.less (St.Le.refl _) (Sub.le (l' := [(2, .ptr n0 0), (3, .ptr (n0 + 1) 0), (6, .ptr L 0), (7, .ptr nh 0)]) z_su) ?_
      refine WpM.norm ?_
      intro nx8 G8 hnx8 hG8 hk8
      have q1 : G8 L = some (.box [.d (.sl (b.keys.map D.str)), .map na, .ms nt 1 0 b.types.length, .map nf, .map ni]) := by rw [hG8]; (simp (maxSteps := 2000000) (disch := omega) [go_sem, -List.map_map])
      have q2 : G8 nh = some (.box [.nil, .d (.sl (ts.map encTxn))]) := by rw [hG8]; (simp (maxSteps := 2000000) (disch := omega) [go_sem, -List.map_map])
      have q3 : G8 n0 = some (.box [.nil, .nil]) := by rw [hG8]; (simp (maxSteps := 2000000) (disch := omega) [go_sem, -List.map_map, k2])
      have q4 : G8 (n0 + 1) = some (.box [.d (.int .i64 0), .d (.int .i64 0)]) := by rw [hG8]; (simp (maxSteps := 2000000) (disch := omega) [go_sem, -List.map_map, k3])
      have q5 : ∀ m k, H m = some k → G8 m = some k := fun m k hk => by
        have h9 := hH m k hk
        have h8 := hI.old m k hk
        rw [hG8]
        (simp (maxSteps := 2000000) (disch := omega) [go_sem, -List.map_map, h8])
      clear hG8 hk8 hnx8 kL kk k5 k6 k2 k3 hGk
      ((repeat refine WpM.seq ?_); have z_ex := (And.intro @q1 (And.intro @q2 True.intro)); refine WpM.regPE [] [(2, _), (3, _), (7, _)] (by (refine s_m [(6, _)] ?_; refine s_m [(123, _)] ?_; refine s_f [(124, _)] ?_; refine s_l [(125, _)] ?_; refine s_f [(7, _)] ?_; refine s_s [(126, _), (127, _)] ?_; exact wpS_nil ⟨rfl, rfl⟩)) z_su ?_; clear z_ex)
      ((repeat refine WpM.seq ?_); have z_ex := (And.intro @q2 (And.intro @q3 (And.intro @q4 True.intro))); refine WpM.regPE [] [(2, _), (3, _)] (by (refine s_l [(7, _)] ?_; refine s_g [] ?_; refine s_s [(2, _), (128, _)] ?_; refine s_s [(3, _), (129, _)] ?_; exact wpS_nil ⟨rfl, rfl⟩)) z_su ?_; clear z_ex)
      refine WpM.ret ?_
      refine ⟨.inr rfl, Upd.done ⟨_, (by (simp (maxSteps := 2000000) (disch := omega) [go_sem, -List.map_map, resV, resVs, resV1])), rfl, fun m k _ hk => ?_⟩⟩
      have h9 := hH _ _ hk
      have h8 := q5 m k hk
      (simp (maxSteps := 2000000) (disch := omega) [go_sem, -List.map_map, h8])
end Go.Proofs.Ytjjmedgibcffhaa
