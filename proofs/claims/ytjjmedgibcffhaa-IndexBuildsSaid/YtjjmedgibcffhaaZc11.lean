/- Part 11 of the texts that stand behind this law. -/
import Derived.Test.YtjjmedgibcffhaaZc10
/- assizelaw05.alive. -/
namespace Go.Proofs.Ytjjmedgibcffhaa
open Go.RowKit M
set_option linter.unusedSimpArgs false
set_option linter.unusedVariables false
def yB : ByteArray := ⟨#[121]⟩
def aCall : CallD := ⟨2, yB, 5, false, []⟩
def aEvs : List EventD := [⟨0, 0, [aCall]⟩, ⟨0, 1, [aCall]⟩]
def aHist : HistD := ⟨[yB], [⟨0, 1, 0, 1, [⟨2, 0, 5, false, []⟩]⟩]⟩
theorem aCall_ok (e : Int) : callOk aCall e = true := by simp [callOk, aCall, yB, ByteArray.toList_eq, ByteArray.size]
theorem aEv_ok (p k : Int) (h0 : 0 ≤ k) (h3 : k ≤ 3) : eventOk ⟨p, k, [aCall]⟩ = true := by simp [eventOk, aCall_ok, h0, h3]
theorem aEvs_listOk : listOk aEvs = true := by simp [listOk, aEvs, aEv_ok]
theorem aEvs_pairs : pairsF aEvs = .ok [⟨0, 1, 1⟩] := by
  have h1 : pairsSt aEvs 1 = .ok ([⟨0, -1, 3⟩], upd (fun _ => none) 0 (some 0)) := by
    rw [pairsSt_succ (ps := []) (op := fun _ => none) rfl (by decide)]
    simp [pairStep, aEvs]
  have h2 : pairsSt aEvs 2 = .ok ([⟨0, 1, 1⟩], upd (upd (fun _ => none) 0 (some 0)) 0 none) := by
    rw [pairsSt_succ h1 (by decide)]
    simp [pairStep, aEvs, upd_same, matchB, callsEq, callEq]
  rw [pairsF, if_pos aEvs_listOk]
  show (match pairsSt aEvs 2 with | .error j => _ | .ok s => _) = _
  rw [h2]
theorem aEvs_build : buildF aEvs = (aHist, 0, 0) := by
  rw [buildF, aEvs_pairs]
  simp [buildSt, buildStep, ev, aEvs, entersE, enterB, addB, putB, findN, Bk.push, Bk.empty, tyOf, aCall, txnOf, callsFor, opOf, aHist]
theorem aHist_check : checkB aHist = true := by
  have e1 : evOf aHist.keys ⟨0, 1, 0, 1, [⟨2, 0, 5, false, []⟩]⟩ = ⟨0, 1, [aCall]⟩ := by simp [evOf, aHist, okKey, callOf', aCall]
  have e2 : eventOk ⟨0, 1, [aCall]⟩ = true := aEv_ok _ _ (by decide) (by decide)
  have e3 : evOkB aHist.keys ⟨0, 1, 0, 1, [⟨2, 0, 5, false, []⟩]⟩ = true := by rw [evOkB, e1, e2]; simp [aHist, okKey]
  have e4 : placedB ([] : List TxnD) ⟨0, 1, 0, 1, [⟨2, 0, 5, false, []⟩]⟩ = true := by simp [placedB]
  have e5 : stepT aHist 0 Bk.empty = enters Bk.empty [aCall] 0 := by
    unfold stepT
    simp only [show aHist.txns[0]? = some ⟨0, 1, 0, 1, [⟨2, 0, 5, false, []⟩]⟩ from rfl, List.take_zero, e3, e4, e1, Bool.and_self, if_true]
    rfl
  have e6 : (enters Bk.empty [aCall] 0).isSome = true := by simp [enters, enterB, addB, putB, findN, Bk.push, Bk.empty, tyOf, aCall]
  have e7 : namesB aHist.keys = true := by simp [namesB, nameB, aHist, findN, yB, ByteArray.size]
  rw [checkB, e7]
  have : checkSt aHist aHist.txns.length = stepT aHist 0 Bk.empty := rfl
  rw [this, e5, e6]
  simp [aHist]
theorem aHist_type : typeF aHist 0 = 2 := by
  rw [typeF, if_pos aHist_check]
  simp [allOps, aHist, tyOf]
theorem aHist_final : finalV aHist 0 0 = .tup [.d (.sl [.int .i64 5]), .d (.bool true)] := by
  have := finalV_good (h := aHist) (t := 0) (key := 0) (by decide) aHist_check
  have e : finalV aHist 0 0 = finalV aHist ((0 : Nat) : Int) 0 := rfl
  rw [e, this]
  simp [aHist, wroteL, wrP]
theorem aEmpty_check : checkB ⟨[⟨#[]⟩], []⟩ = false := by
  have : namesB [⟨#[]⟩] = false := by simp [namesB, nameB, ByteArray.size]
  rw [checkB, this]
  rfl
theorem aEvs_ok : SlOk EventOk 40 aEvs := by
  have hc : CallOk aCall := ⟨(by decide : (Lit.int .i64 2).wf = true), by decide, (by decide : (Lit.int .i64 5).wf = true), by decide, by simp [aCall]⟩
  refine ⟨by decide, fun e he => ?_⟩
  simp only [aEvs, List.mem_cons, List.not_mem_nil, or_false] at he
  rcases he with rfl | rfl
  · exact ⟨(by decide : (Lit.int .i64 0).wf = true), (by decide : (Lit.int .i64 0).wf = true), by decide, fun c hc' => by simp at hc'; rw [hc']; exact hc⟩
  · exact ⟨(by decide : (Lit.int .i64 0).wf = true), (by decide : (Lit.int .i64 1).wf = true), by decide, fun c hc' => by simp at hc'; rw [hc']; exact hc⟩
theorem aHist_ok : HistOk aHist := by
  refine ⟨⟨by decide, fun s hs => ?_⟩, by decide, fun t ht => ?_⟩
  · simp [aHist] at hs; subst hs; decide
  · simp [aHist] at ht
    subst ht
    refine ⟨(by decide : (Lit.int .i64 0).wf = true), (by decide : (Lit.int .i64 1).wf = true), (by decide : (Lit.int .i64 0).wf = true), (by decide : (Lit.int .i64 1).wf = true), by simp, fun o ho => ?_⟩
    simp at ho
    subst ho
    exact ⟨(by decide : (Lit.int .i64 2).wf = true), (by decide : (Lit.int .i64 0).wf = true), (by decide : (Lit.int .i64 5).wf = true), by simp, by simp⟩
theorem aEmpty_ok : HistOk ⟨[⟨#[]⟩], []⟩ := ⟨⟨by simp, fun s hs => by simp at hs; subst hs; decide⟩, by simp, by simp⟩
theorem PureC.arg1 {P : Program} {f : FuncId} {x x' r : V} (h : PureC P f [x'] r) (hx : ∀ {g : Gh} {w : World} {v : Value}, RV g w x v → RV g w x' v) : PureC P f [x] r := by
  intro S g w vals h1 h2 h3 h4
  refine h S g w vals h1 h2 h3 fun j y hy => ?_
  match j, hy with
  | 0, hy => simp at hy; subst hy; exact hx (h4 0 x rfl)
  | j + 1, hy => simp at hy
set_option maxHeartbeats 8000000 in
theorem alive27 : PureC Try.prog 27 [] (.d (.bool true)) := by
  refine PureC.of (n := 70) Try.func27 rfl rfl (by simp) rfl rfl ?_
  intro n0 H hH
  have hbuild := build28 aEvs aEvs_ok
  rw [buildV, aEvs_build] at hbuild
  rw [show (V.tup [.d (encHist aHist), fltV (0, 0)]) = .tup [.d (.agg [.sl [.str ⟨#[121]⟩], .sl [.agg [.int .i64 0, .int .i64 1, .int .i64 0, .int .i64 1, .sl [.agg [.int .i64 2, .int .i64 0, .int .i64 5, .bool false, .sl []]]]]]), .d (.agg [.int .i64 0, .int .i64 0])] from rfl] at hbuild
  have hfin := final36 aHist aHist_ok 0 0
  rw [aHist_final] at hfin
  have hty := type34 aHist aHist_ok 0
  rw [aHist_type] at hty
  have hck := check32 ⟨[⟨#[]⟩], []⟩ aEmpty_ok
  rw [aEmpty_check, errno_f] at hck
  have hck2 : PureC Try.prog 32 [.agg [.d (.sl [.str ⟨#[]⟩]), .nil]] (.d (.int .i64 1)) := PureC.arg1 hck fun {g w v} h => by
    cases h with
    | agg xs vs hl hr =>
      refine .d (.agg _ vs (by simpa using hl) fun j y hy => ?_)
      match j, hy with
      | 0, hy =>
        simp at hy
        subst hy
        have := hr 0 _ rfl
        cases this with | d this => exact this
      | 1, hy =>
        simp at hy
        subst hy
        have := hr 1 _ rfl
        generalize vs.getD 1 undef = q at this
        cases this
        exact .slNil _ _
      | j + 2, hy => simp at hy
  ((repeat refine WpM.seq ?_); have z_ex := True.intro; refine WpM.regPE [] [] (by (refine s_o [] rfl rfl rfl z_su rfl q_move z_fp z_ss ?_; exact wpS_nil ⟨rfl, rfl⟩)) z_su ?_; clear z_ex)
  ((repeat refine WpM.seq ?_); have z_ex := True.intro; refine WpM.regPE [] [(1, _)] (by (refine s_o [] rfl rfl rfl z_su rfl q_build z_fp z_ss ?_; refine s_o [(6, _)] rfl rfl rfl z_su rfl q_full z_fp z_ss ?_; refine s_o [(7, _)] rfl rfl rfl z_su rfl q_move z_fp z_ss ?_; exact wpS_nil ⟨rfl, rfl⟩)) z_su ?_; clear z_ex)
  refine Upd.wp (Upd.rowNil (n0 + 2) (sz := 5) (ys := [.d (.int .i64 2), .d (.str ⟨#[121]⟩), .d (.int .i64 5), .d (.bool false), .nil]) (by (simp (maxSteps := 2000000) (disch := omega) [go_sem, -List.map_map])) (Upd.freeze 1 (nm := n0 + 2) (sz := 5) (o := 0) (m := 1) (xs := [.d (.agg [.int .i64 2, .str ⟨#[121]⟩, .int .i64 5, .bool false, .sl []])]) [.agg [.int .i64 2, .str ⟨#[121]⟩, .int .i64 5, .bool false, .sl []]] (by (simp (maxSteps := 2000000) (disch := omega) [go_sem, -List.map_map])) (by (simp (maxSteps := 2000000) (disch := omega) [go_sem, -List.map_map, nilC])) rfl rfl (Upd.done ?_)))
  refine WpM.less (le_cut (n0 := n0) (n' := n0 + 4) (l' := []) hH (by (simp (maxSteps := 2000000) (disch := omega) [go_sem, -List.map_map])) (by (simp (maxSteps := 2000000) (disch := omega) [go_sem, -List.map_map])) (by (simp (maxSteps := 2000000) (disch := omega) [go_sem, -List.map_map]))) (frLe_frOf (l := [(1, .d (.sl [.agg [.int .i64 2, .str ⟨#[121]⟩, .int .i64 5, .bool false, .sl []]]))]) (by (simp (maxSteps := 2000000) (disch := omega) [go_sem, -List.map_map, fset]))) ?_
  ((repeat refine WpM.seq ?_); have z_ex := True.intro; refine WpM.regPE [] [(2, _), (3, _)] (by (refine s_o [(1, _)] rfl rfl rfl z_su rfl q_move z_fp z_ss ?_; refine s_o [(9, _)] rfl rfl rfl z_su rfl q_build z_fp z_ss ?_; refine s_o [(1, _)] rfl rfl rfl z_su rfl q_move z_fp z_ss ?_; refine s_o [(11, _)] rfl rfl rfl z_su rfl q_build z_fp z_ss ?_; refine s_o [(10, _), (12, _)] rfl rfl rfl z_su rfl q_full z_fp z_ss ?_; refine s_pure (callOf_eq rfl rfl rfl (mlk_tmp z_lk mlk_nil)) (hbuild) rfl rfl z_ip z_fp ?_; refine s_o [(14, _)] rfl rfl rfl z_su rfl q_move z_fp z_ss ?_; refine s_o [(8, _)] rfl rfl rfl z_su rfl q_extract z_fp z_ss ?_; refine s_o [(8, _)] rfl rfl rfl z_su rfl q_extract z_fp z_ss ?_; refine s_o [] rfl rfl rfl z_su rfl q_alloc z_fp z_ss ?_; refine s_o [] rfl rfl rfl z_su rfl q_alloc z_fp z_ss ?_; refine s_o [(2, _), (15, _)] rfl rfl rfl z_su rfl q_store z_fp z_ss ?_; refine s_o [(3, _), (16, _)] rfl rfl rfl z_su rfl q_store z_fp z_ss ?_; exact wpS_nil ⟨rfl, rfl⟩)) z_su ?_; clear z_ex)
  ((repeat refine WpM.seq ?_); have z_ex := True.intro; refine WpM.regPE [] [(2, _), (3, _), (4, _), (5, _)] (by (refine s_o [(2, _)] rfl rfl rfl z_su rfl q_load z_fp z_ss ?_; refine s_pure (callOf_eq rfl rfl rfl (mlk_tmp z_lk (mlk_const rfl (mlk_const rfl mlk_nil)))) (hfin) rfl rfl z_ip z_fp ?_; refine s_o [(19, _)] rfl rfl rfl z_su rfl q_move z_fp z_ss ?_; refine s_o [(17, _)] rfl rfl rfl z_su rfl q_extract z_fp z_ss ?_; refine s_o [(17, _)] rfl rfl rfl z_su rfl q_extract z_fp z_ss ?_; refine s_o [(20, _)] rfl rfl rfl z_su rfl q_move z_fp z_ss ?_; refine s_o [(21, _)] rfl rfl rfl z_su rfl q_move z_fp z_ss ?_; exact wpS_nil ⟨rfl, rfl⟩)) z_su ?_; clear z_ex)
  ((repeat refine WpM.seq ?_); have z_ex := True.intro; refine WpM.regPE [] [(0, _)] (by (refine s_o [(3, _)] rfl rfl rfl z_su rfl q_fieldAddr z_fp z_ss ?_; refine s_o [(22, _)] rfl rfl rfl z_su rfl q_load z_fp z_ss ?_; refine s_o [(23, _)] rfl rfl rfl z_su rfl q_full z_fp z_ss ?_; refine s_o [(24, _)] rfl rfl rfl z_su rfl q_move z_fp z_ss ?_; refine s_wit ?_; intro z_g; (first | refine s_skip rfl z_g z_fp ?_ | (refine s_o [(2, _)] rfl z_g rfl z_su rfl q_fieldAddr z_fp z_ss ?_)); clear z_g; refine s_wit ?_; intro z_g; (first | refine s_skip rfl z_g z_fp ?_ | (refine s_o [(26, _)] rfl z_g rfl z_su rfl q_load z_fp z_ss ?_)); clear z_g; refine s_wit ?_; intro z_g; (first | refine s_skip rfl z_g z_fp ?_ | (refine s_o [(27, _)] rfl z_g rfl z_su rfl q_full z_fp z_ss ?_)); clear z_g; refine s_wit ?_; intro z_g; (first | refine s_skip rfl z_g z_fp ?_ | (refine s_o [(28, _)] rfl z_g rfl z_su rfl q_full z_fp z_ss ?_)); clear z_g; refine s_o [(25, _), (29, _)] rfl rfl rfl z_su rfl q_move z_fp z_ss ?_; refine s_o [(30, _)] rfl rfl rfl z_su rfl q_move z_fp z_ss ?_; refine s_wit ?_; intro z_g; (first | refine s_skip rfl z_g z_fp ?_ | (refine s_o [(2, _)] rfl z_g rfl z_su rfl q_fieldAddr z_fp z_ss ?_)); clear z_g; refine s_wit ?_; intro z_g; (first | refine s_skip rfl z_g z_fp ?_ | (refine s_o [(32, _)] rfl z_g rfl z_su rfl q_load z_fp z_ss ?_)); clear z_g; refine s_wit ?_; intro z_g; (first | refine s_skip rfl z_g z_fp ?_ | (refine s_o [(33, _)] rfl z_g rfl z_su rfl q_full z_fp z_ss ?_)); clear z_g; refine s_wit ?_; intro z_g; (first | refine s_skip rfl z_g z_fp ?_ | (refine s_o [(34, _)] rfl z_g rfl z_su rfl q_full z_fp z_ss ?_)); clear z_g; refine s_o [(31, _), (35, _)] rfl rfl rfl z_su rfl q_move z_fp z_ss ?_; refine s_o [(36, _)] rfl rfl rfl z_su rfl q_move z_fp z_ss ?_; refine s_wit ?_; intro z_g; (first | refine s_skip rfl z_g z_fp ?_ | (refine s_o [(2, _)] rfl z_g rfl z_su rfl q_fieldAddr z_fp z_ss ?_)); clear z_g; refine s_wit ?_; intro z_g; (first | refine s_skip rfl z_g z_fp ?_ | (refine s_o [(38, _)] rfl z_g rfl z_su rfl q_load z_fp z_ss ?_)); clear z_g; refine s_wit ?_; intro z_g; (first | refine s_skip rfl z_g z_fp ?_ | (refine s_o [(39, _)] rfl z_g rfl z_su rfl q_full z_fp z_ss ?_)); clear z_g; refine s_wit ?_; intro z_g; (first | refine s_skip rfl z_g z_fp ?_ | (refine s_o [(40, _)] rfl z_g rfl z_su rfl q_fieldAddr z_fp z_ss ?_)); clear z_g; refine s_wit ?_; intro z_g; (first | refine s_skip rfl z_g z_fp ?_ | (refine s_o [(41, _)] rfl z_g rfl z_su rfl q_load z_fp z_ss ?_)); clear z_g; refine s_wit ?_; intro z_g; (first | refine s_skip rfl z_g z_fp ?_ | (refine s_o [(42, _)] rfl z_g rfl z_su rfl q_full z_fp z_ss ?_)); clear z_g; refine s_o [(37, _), (43, _)] rfl rfl rfl z_su rfl q_move z_fp z_ss ?_; refine s_o [(44, _)] rfl rfl rfl z_su rfl q_move z_fp z_ss ?_; refine s_wit ?_; intro z_g; (first | refine s_skip rfl z_g z_fp ?_ | (refine s_o [(2, _)] rfl z_g rfl z_su rfl q_load z_fp z_ss ?_)); clear z_g; refine s_wit ?_; intro z_g; (first | refine s_skip rfl z_g z_fp ?_ | (refine s_pure (callOf_eq rfl rfl rfl (mlk_tmp z_lk (mlk_const rfl mlk_nil))) (hty) rfl z_g z_ip z_fp ?_)); clear z_g; refine s_wit ?_; intro z_g; (first | refine s_skip rfl z_g z_fp ?_ | (refine s_o [(47, _)] rfl z_g rfl z_su rfl q_full z_fp z_ss ?_)); clear z_g; refine s_o [(45, _), (48, _)] rfl rfl rfl z_su rfl q_move z_fp z_ss ?_; refine s_o [(49, _)] rfl rfl rfl z_su rfl q_move z_fp z_ss ?_; refine s_wit ?_; intro z_g; (first | refine s_skip rfl z_g z_fp ?_ | (refine s_o [(5, _)] rfl z_g rfl z_su rfl q_move z_fp z_ss ?_)); clear z_g; refine s_o [(50, _), (51, _)] rfl rfl rfl z_su rfl q_move z_fp z_ss ?_; refine s_o [(52, _)] rfl rfl rfl z_su rfl q_move z_fp z_ss ?_; refine s_wit ?_; intro z_g; (first | refine s_skip rfl z_g z_fp ?_ | (refine s_o [(4, _)] rfl z_g rfl z_su rfl q_move z_fp z_ss ?_)); clear z_g; refine s_wit ?_; intro z_g; (first | refine s_skip rfl z_g z_fp ?_ | (refine s_o [(54, _)] rfl z_g rfl z_su rfl q_full z_fp z_ss ?_)); clear z_g; refine s_wit ?_; intro z_g; (first | refine s_skip rfl z_g z_fp ?_ | (refine s_o [(55, _)] rfl z_g rfl z_su rfl q_full z_fp z_ss ?_)); clear z_g; refine s_o [(53, _), (56, _)] rfl rfl rfl z_su rfl q_move z_fp z_ss ?_; refine s_o [(57, _)] rfl rfl rfl z_su rfl q_move z_fp z_ss ?_; refine s_wit ?_; intro z_g; (first | refine s_skip rfl z_g z_fp ?_ | (refine s_o [(4, _)] rfl z_g rfl z_su rfl q_move z_fp z_ss ?_)); clear z_g; refine s_wit ?_; intro z_g; (first | refine s_skip rfl z_g z_fp ?_ | (refine s_o [(59, _)] rfl z_g rfl z_su rfl q_full z_fp z_ss ?_)); clear z_g; refine s_wit ?_; intro z_g; (first | refine s_skip rfl z_g z_fp ?_ | (refine s_o [(60, _)] rfl z_g rfl z_su rfl q_load z_fp z_ss ?_)); clear z_g; refine s_wit ?_; intro z_g; (first | refine s_skip rfl z_g z_fp ?_ | (refine s_o [(61, _)] rfl z_g rfl z_su rfl q_full z_fp z_ss ?_)); clear z_g; refine s_o [(58, _), (62, _)] rfl rfl rfl z_su rfl q_move z_fp z_ss ?_; refine s_o [(63, _)] rfl rfl rfl z_su rfl q_move z_fp z_ss ?_; refine s_wit ?_; intro z_g; (first | refine s_skip rfl z_g z_fp ?_ | (refine s_o [] rfl z_g rfl z_su rfl q_full z_fp z_ss ?_)); clear z_g; refine s_wit ?_; intro z_g; (first | refine s_skip rfl z_g z_fp ?_ | (refine s_o [(65, _)] rfl z_g rfl z_su rfl q_build z_fp z_ss ?_)); clear z_g; refine s_wit ?_; intro z_g; (first | refine s_skip rfl z_g z_fp ?_ | (refine s_pure (callOf_eq rfl rfl rfl (mlk_tmp z_lk mlk_nil)) (hck2) rfl z_g z_ip z_fp ?_)); clear z_g; refine s_wit ?_; intro z_g; (first | refine s_skip rfl z_g z_fp ?_ | (refine s_o [(67, _)] rfl z_g rfl z_su rfl q_full z_fp z_ss ?_)); clear z_g; refine s_o [(64, _), (68, _)] rfl rfl rfl z_su rfl q_move z_fp z_ss ?_; refine s_o [(69, _)] rfl rfl rfl z_su rfl q_move z_fp z_ss ?_; exact wpS_nil ⟨rfl, rfl⟩)) z_su ?_; clear z_ex)
  (refine WpM.ret ?_; refine ⟨.inr rfl, Upd.done ?_⟩; (simp (maxSteps := 2000000) (disch := omega) [go_sem, -List.map_map, resV, resVs, resV1,]))
end Go.Proofs.Ytjjmedgibcffhaa
/- assizeref05.Copy. -/
namespace Go.Proofs.Ytjjmedgibcffhaa
open Go.RowKit M
set_option linter.unusedSimpArgs false
set_option linter.unusedVariables false
set_option maxHeartbeats 8000000 in
theorem copy31 (h : HistD) (hb : HistB h) : PureC Try.prog 31 [.d (encHist h)] (.d (encHist h)) := by
  refine PureC.of (n := 64) Try.func31 rfl rfl (by simp) (by simp only [argL, Nat.reduceAdd] <;> rfl) rfl ?_
  intro n0 H hH
  have hb1 := hb.keys
  have hb2 := hb.len
  ((repeat refine WpM.seq ?_); have z_ex := True.intro; refine WpM.regPE [] [(1, _), (2, _)] (by (refine s_o [(0, _)] rfl rfl rfl z_su rfl q_box z_fp z_ss ?_; refine s_o [] rfl rfl rfl z_su rfl q_alloc z_fp z_ss ?_; exact wpS_nil ⟨rfl, rfl⟩)) z_su ?_; clear z_ex)
  ((repeat refine WpM.seq ?_); have z_ex := (And.intro @encHist.eq_1 True.intro); refine WpM.regPE [11] [(1, _), (2, _), (3, _)] (by (refine s_o [] rfl rfl rfl z_su rfl q_full z_fp z_ss ?_; refine s_o [(1, _)] rfl rfl rfl z_su rfl q_fieldAddr z_fp z_ss ?_; refine s_o [(9, _)] rfl rfl rfl z_su rfl q_load z_fp z_ss ?_; refine s_o [(8, _), (10, _)] rfl rfl rfl z_su rfl q_full z_fp z_ss ?_; refine s_o [(11, _)] rfl rfl rfl z_su rfl q_build z_fp z_ss ?_; refine s_o [] rfl rfl rfl z_su rfl q_alloc z_fp z_ss ?_; refine s_o [(3, _), (12, _)] rfl rfl rfl z_su rfl q_store z_fp z_ss ?_; exact wpS_nil ⟨rfl, rfl⟩)) z_su ?_; clear z_ex)
  refine Upd.wp (Upd.ghostIn (n0 + 7) 1 5 (cs := [.d (strs h.keys), .nil]) (by (simp (maxSteps := 2000000) (disch := omega) [go_sem, -List.map_map, strs])) (.inl (by rfl)) (Upd.done ?_))
  refine WpM.less (St.Le.refl _) (frLe_frOf (l := [(1, .ptr n0 0), (2, .ptr (n0 + 1) 0), (3, .ptr (n0 + 7) 0)]) (by (simp (maxSteps := 2000000) (disch := omega) [go_sem, -List.map_map]))) ?_
  ((repeat refine WpM.seq ?_); have z_ex := True.intro; refine WpM.regPE [] [(1, _), (2, _), (3, _), (4, _)] (by (refine s_o [] rfl rfl rfl z_su rfl q_move z_fp z_ss ?_; exact wpS_nil ⟨rfl, rfl⟩)) z_su ?_; clear z_ex)
  ((repeat refine WpM.seq ?_); refine WpM.block ?_)
  refine WpM.loop (fun (j : Nat) fr S => j ≤ h.txns.length ∧ ∃ nx nm xs, n0 + 9 ≤ nm ∧ nm < nx ∧ xs = ((h.txns.take j).map fun t => V.d (encTxn t)) ∧ fr = frOf [(1, .ptr n0 0), (2, .ptr (n0 + 1) 0), (3, .ptr (n0 + 7) 0), (4, .d (.int .i64 j))] ∧ S = ⟨nx, [(n0, some (.box [.d (strs h.keys), .d (.sl (h.txns.map encTxn))])), (n0 + 1, some (.box [.nil, .nil])), (n0 + 7, some (.box [.d (strs h.keys), .ms nm 5 0 xs.length])), (nm, some (.row 5 xs))], H⟩) (fun j => h.txns.length - j) 0 (St.Le.refl _) (frLe_frOf (by (simp (maxSteps := 2000000) (disch := omega) [go_sem, -List.map_map]))) ⟨by omega, n0 + 11, n0 + 9, [], by omega, by omega, by simp, rfl, by (simp (maxSteps := 2000000) (disch := omega) [go_sem, -List.map_map, encHist, strs])⟩ ?_
  rintro j fr S' ⟨hj, nx, nm, xs, hnm, hnx, hxs, rfl, rfl⟩
  have hxl : xs.length = j := by rw [hxs]; simp; omega
  ((repeat refine WpM.seq ?_); have z_ex := True.intro; refine WpM.regPE [] [(1, _), (2, _), (3, _), (4, _), (17, _)] (by (refine s_o [(4, _)] rfl rfl rfl z_su rfl q_move z_fp z_ss ?_; refine s_o [(1, _)] rfl rfl rfl z_su rfl q_fieldAddr z_fp z_ss ?_; refine s_o [(14, _)] rfl rfl rfl z_su rfl q_load z_fp z_ss ?_; refine s_o [(15, _)] rfl rfl rfl z_su rfl q_full z_fp z_ss ?_; refine s_o [(13, _), (16, _)] rfl rfl rfl z_su rfl q_full z_fp z_ss ?_; exact wpS_nil ⟨rfl, rfl⟩)) z_su ?_; clear z_ex)
  by_cases hlt : j < h.txns.length
  · ((repeat refine WpM.seq ?_); refine WpM.condT (by (simp (maxSteps := 2000000) (disch := omega) [go_sem, -List.map_map, hlt])) ?_)
    refine WpM.skip ?_
    ((repeat refine WpM.seq ?_); refine WpM.block ?_)
    obtain ⟨t, ht⟩ : ∃ t, t = h.txns[j] := ⟨_, rfl⟩
    have hget : (h.txns.map encTxn)[j]? = some (encTxn t) := by simp [hlt, ht]
    have htb := hb.txns t (ht ▸ List.getElem_mem _)
    have htl := htb.len
    ((repeat refine WpM.seq ?_); have z_ex := (And.intro @hget (And.intro @encTxn.eq_1 True.intro)); refine WpM.regPE [] [(1, _), (2, _), (3, _), (4, _), (5, _)] (by (refine s_o [(1, _)] rfl rfl rfl z_su rfl q_fieldAddr z_fp z_ss ?_; refine s_o [(20, _)] rfl rfl rfl z_su rfl q_load z_fp z_ss ?_; refine s_o [(4, _)] rfl rfl rfl z_su rfl q_move z_fp z_ss ?_; refine s_o [(21, _), (22, _)] rfl rfl rfl z_su rfl q_full z_fp z_ss ?_; refine s_o [(23, _)] rfl rfl rfl z_su rfl q_load z_fp z_ss ?_; refine s_o [] rfl rfl rfl z_su rfl q_alloc z_fp z_ss ?_; refine s_o [(5, _), (24, _)] rfl rfl rfl z_su rfl q_store z_fp z_ss ?_; exact wpS_nil ⟨rfl, rfl⟩)) z_su ?_; clear z_ex)
    ((repeat refine WpM.seq ?_); have z_ex := True.intro; refine WpM.regPE [] [(1, _), (2, _), (3, _), (4, _), (5, _)] (by (refine s_o [(5, _)] rfl rfl rfl z_su rfl q_fieldAddr z_fp z_ss ?_; refine s_o [(25, _)] rfl rfl rfl z_su rfl q_store z_fp z_ss ?_; exact wpS_nil ⟨rfl, rfl⟩)) z_su ?_; clear z_ex)
    refine Upd.wp (Upd.ghostIn (nx + 10) 4 5 (cs := [.d (.int .i64 t.proc), .d (.int .i64 t.status), .d (.int .i64 t.frm), .d (.int .i64 t.to), .nil]) (by (simp (maxSteps := 2000000) (disch := omega) [go_sem, -List.map_map])) (.inl (by rfl)) (Upd.done ?_))
    refine WpM.less (St.Le.refl _) (frLe_frOf (l := [(1, .ptr n0 0), (2, .ptr (n0 + 1) 0), (3, .ptr (n0 + 7) 0), (4, .d (.int .i64 j)), (5, .ptr (nx + 10) 0)]) (by (simp (maxSteps := 2000000) (disch := omega) [go_sem, -List.map_map]))) ?_
    ((repeat refine WpM.seq ?_); have z_ex := True.intro; refine WpM.regPE [] [(1, _), (2, _), (3, _), (4, _), (5, _), (6, _)] (by (refine s_o [] rfl rfl rfl z_su rfl q_move z_fp z_ss ?_; exact wpS_nil ⟨rfl, rfl⟩)) z_su ?_; clear z_ex)
    ((repeat refine WpM.seq ?_); refine WpM.block ?_)
    refine WpM.loop (fun (k : Nat) fr S => k ≤ t.ops.length ∧ ∃ ny nr ys, nx + 14 ≤ nr ∧ nr < ny ∧ ys = ((t.ops.take k).map fun o => V.d (encOp o)) ∧ fr = frOf [(1, .ptr n0 0), (2, .ptr (n0 + 1) 0), (3, .ptr (n0 + 7) 0), (4, .d (.int .i64 j)), (5, .ptr (nx + 10) 0), (6, .d (.int .i64 k))] ∧ S = ⟨ny, [(n0, some (.box [.d (strs h.keys), .d (.sl (h.txns.map encTxn))])), (n0 + 1, some (.box [.nil, .nil])), (n0 + 7, some (.box [.d (strs h.keys), .ms nm 5 0 xs.length])), (nm, some (.row 5 xs)), (nx + 10, some (.box [.d (.int .i64 t.proc), .d (.int .i64 t.status), .d (.int .i64 t.frm), .d (.int .i64 t.to), .ms nr 5 0 ys.length])), (nr, some (.row 5 ys))], H⟩) (fun k => t.ops.length - k) 0 (St.Le.refl _) (frLe_frOf (by (simp (maxSteps := 2000000) (disch := omega) [go_sem, -List.map_map]))) ⟨by omega, nx + 16, nx + 14, [], by omega, by omega, by simp, rfl, by (simp (maxSteps := 2000000) (disch := omega) [go_sem, -List.map_map])⟩ ?_
    rintro k fr S' ⟨hk, ny, nr, ys, hnr, hny, hys, rfl, rfl⟩
    have hyl : ys.length = k := by rw [hys]; simp; omega
    ((repeat refine WpM.seq ?_); have z_ex := (And.intro @hget (And.intro @encTxn.eq_1 True.intro)); refine WpM.regPE [] [(1, _), (2, _), (3, _), (4, _), (5, _), (6, _), (34, _)] (by (refine s_o [(6, _)] rfl rfl rfl z_su rfl q_move z_fp z_ss ?_; refine s_o [(1, _)] rfl rfl rfl z_su rfl q_fieldAddr z_fp z_ss ?_; refine s_o [(27, _)] rfl rfl rfl z_su rfl q_load z_fp z_ss ?_; refine s_o [(4, _)] rfl rfl rfl z_su rfl q_move z_fp z_ss ?_; refine s_o [(28, _), (29, _)] rfl rfl rfl z_su rfl q_full z_fp z_ss ?_; refine s_o [(30, _)] rfl rfl rfl z_su rfl q_fieldAddr z_fp z_ss ?_; refine s_o [(31, _)] rfl rfl rfl z_su rfl q_load z_fp z_ss ?_; refine s_o [(32, _)] rfl rfl rfl z_su rfl q_full z_fp z_ss ?_; refine s_o [(26, _), (33, _)] rfl rfl rfl z_su rfl q_full z_fp z_ss ?_; exact wpS_nil ⟨rfl, rfl⟩)) z_su ?_; clear z_ex)
    by_cases hlt2 : k < t.ops.length
    · ((repeat refine WpM.seq ?_); refine WpM.condT (by (simp (maxSteps := 2000000) (disch := omega) [go_sem, -List.map_map, hlt2])) ?_)
      refine WpM.skip ?_
      ((repeat refine WpM.seq ?_); refine WpM.block ?_)
      obtain ⟨o, ho⟩ : ∃ o, o = t.ops[k] := ⟨_, rfl⟩
      have hget2 : (t.ops.map encOp)[k]? = some (encOp o) := by simp [hlt2, ho]
      have hob := (htb.ops o (ho ▸ List.getElem_mem _)).vals
      have hys' : ys ++ [V.d (encOp o)] = (t.ops.take (k + 1)).map (fun o => V.d (encOp o)) := by rw [hys, List.take_succ_eq_append_getElem hlt2, ← ho]; simp
      ((repeat refine WpM.seq ?_); have z_ex := (And.intro @hget (And.intro @hget2 (And.intro @encTxn.eq_1 (And.intro @encOp.eq_1 True.intro)))); refine WpM.regPE [] [(1, _), (2, _), (3, _), (4, _), (5, _), (6, _), (7, _)] (by (refine s_o [(1, _)] rfl rfl rfl z_su rfl q_fieldAddr z_fp z_ss ?_; refine s_o [(37, _)] rfl rfl rfl z_su rfl q_load z_fp z_ss ?_; refine s_o [(4, _)] rfl rfl rfl z_su rfl q_move z_fp z_ss ?_; refine s_o [(38, _), (39, _)] rfl rfl rfl z_su rfl q_full z_fp z_ss ?_; refine s_o [(40, _)] rfl rfl rfl z_su rfl q_fieldAddr z_fp z_ss ?_; refine s_o [(41, _)] rfl rfl rfl z_su rfl q_load z_fp z_ss ?_; refine s_o [(6, _)] rfl rfl rfl z_su rfl q_move z_fp z_ss ?_; refine s_o [(42, _), (43, _)] rfl rfl rfl z_su rfl q_full z_fp z_ss ?_; refine s_o [(44, _)] rfl rfl rfl z_su rfl q_load z_fp z_ss ?_; refine s_o [] rfl rfl rfl z_su rfl q_alloc z_fp z_ss ?_; refine s_o [(7, _), (45, _)] rfl rfl rfl z_su rfl q_store z_fp z_ss ?_; exact wpS_nil ⟨rfl, rfl⟩)) z_su ?_; clear z_ex)
      ((repeat refine WpM.seq ?_); have z_ex := True.intro; refine WpM.regPE [49] [(1, _), (2, _), (3, _), (4, _), (5, _), (6, _), (7, _)] (by (refine s_o [] rfl rfl rfl z_su rfl q_full z_fp z_ss ?_; refine s_o [(7, _)] rfl rfl rfl z_su rfl q_fieldAddr z_fp z_ss ?_; refine s_o [(47, _)] rfl rfl rfl z_su rfl q_load z_fp z_ss ?_; refine s_o [(46, _), (48, _)] rfl rfl rfl z_su rfl q_full z_fp z_ss ?_; refine s_o [(7, _)] rfl rfl rfl z_su rfl q_fieldAddr z_fp z_ss ?_; refine s_o [(49, _), (50, _)] rfl rfl rfl z_su rfl q_store z_fp z_ss ?_; exact wpS_nil ⟨rfl, rfl⟩)) z_su ?_; clear z_ex)
      ((repeat refine WpM.seq ?_); have z_ex := True.intro; refine WpM.regPE [] [(1, _), (2, _), (3, _), (4, _), (5, _), (6, _)] (by (refine s_o [(5, _)] rfl rfl rfl z_su rfl q_fieldAddr z_fp z_ss ?_; refine s_o [(51, _)] rfl rfl rfl z_su rfl q_load z_fp z_ss ?_; refine s_o [(7, _)] rfl rfl rfl z_su rfl q_load z_fp z_ss ?_; refine s_o [(53, _)] rfl rfl rfl z_su rfl q_full z_fp z_ss ?_; refine s_o [(52, _), (54, _)] rfl rfl rfl z_su rfl q_full z_fp z_ss ?_; refine s_o [(5, _)] rfl rfl rfl z_su rfl q_fieldAddr z_fp z_ss ?_; refine s_o [(55, _), (56, _)] rfl rfl rfl z_su rfl q_store z_fp z_ss ?_; exact wpS_nil ⟨rfl, rfl⟩)) z_su ?_; clear z_ex)
      ((repeat refine WpM.seq ?_); have z_ex := (And.intro @wrap_id True.intro); refine WpM.regPE [] [(1, _), (2, _), (3, _), (4, _), (5, _), (6, _)] (by (refine s_o [(6, _)] rfl rfl rfl z_su rfl q_move z_fp z_ss ?_; refine s_o [(35, _)] rfl rfl rfl z_su rfl q_full z_fp z_ss ?_; refine s_o [(36, _)] rfl rfl rfl z_su rfl q_move z_fp z_ss ?_; exact wpS_nil ⟨rfl, rfl⟩)) z_su ?_; clear z_ex)
      exact round_end (x' := k + 1) (le_cut (l' := [(n0, some (.box [.d (strs h.keys), .d (.sl (h.txns.map encTxn))])), (n0 + 1, some (.box [.nil, .nil])), (n0 + 7, some (.box [.d (strs h.keys), .ms nm 5 0 xs.length])), (nm, some (.row 5 xs)), (nx + 10, some (.box [.d (.int .i64 t.proc), .d (.int .i64 t.status), .d (.int .i64 t.frm), .d (.int .i64 t.to), .ms (ny + 30) 5 0 (ys.length + 1)])), (ny + 30, some (.row 5 (ys ++ [V.d (encOp o)])))]) hH (by (simp (maxSteps := 2000000) (disch := omega) [go_sem, -List.map_map]); omega) (Nat.le_refl _) (by (simp (maxSteps := 2000000) (disch := omega) [go_sem, -List.map_map, encOp]))) (frLe_frOf (by (simp (maxSteps := 2000000) (disch := omega) [go_sem, -List.map_map, wrap_id]))) ⟨by omega, ny + 36, ny + 30, _, by omega, by omega, hys', rfl, by (simp (maxSteps := 2000000) (disch := omega) [go_sem, -List.map_map])⟩ (by omega)
    · ((repeat refine WpM.seq ?_); refine WpM.condF (by (simp (maxSteps := 2000000) (disch := omega) [go_sem, -List.map_map, hlt2])) ?_)
      (refine WpM.exit ?_; (repeat (with_reducible (first | refine thenM_exit ?_ | refine blockM_eq ?_ | refine blockM_ne (by decide) ?_))))
      obtain rfl : k = t.ops.length := by omega
      rw [List.take_length] at hys
      refine Upd.wp (Upd.freezeIn (nx + 10) 4 (cs := [.d (.int .i64 t.proc), .d (.int .i64 t.status), .d (.int .i64 t.frm), .d (.int .i64 t.to), .ms nr 5 0 ys.length]) (xs := ys) (t.ops.map encOp) (by (simp (maxSteps := 2000000) (disch := omega) [go_sem, -List.map_map])) (by rfl) (by (simp (maxSteps := 2000000) (disch := omega) [go_sem, -List.map_map])) (by rw [List.drop_zero, List.take_length, hys, List.map_map]; rfl) (by simp [hys]) (Upd.done ?_))
      have hxs' : xs ++ [V.d (encTxn t)] = (h.txns.take (j + 1)).map (fun t => V.d (encTxn t)) := by rw [hxs, List.take_succ_eq_append_getElem hlt, ← ht]; simp
      ((repeat refine WpM.seq ?_); have z_ex := True.intro; refine WpM.regPE [] [(1, _), (2, _), (3, _), (4, _)] (by (refine s_o [(3, _)] rfl rfl rfl z_su rfl q_fieldAddr z_fp z_ss ?_; refine s_o [(57, _)] rfl rfl rfl z_su rfl q_load z_fp z_ss ?_; refine s_o [(5, _)] rfl rfl rfl z_su rfl q_load z_fp z_ss ?_; refine s_o [(59, _)] rfl rfl rfl z_su rfl q_full z_fp z_ss ?_; refine s_o [(58, _), (60, _)] rfl rfl rfl z_su rfl q_full z_fp z_ss ?_; refine s_o [(3, _)] rfl rfl rfl z_su rfl q_fieldAddr z_fp z_ss ?_; refine s_o [(61, _), (62, _)] rfl rfl rfl z_su rfl q_store z_fp z_ss ?_; exact wpS_nil ⟨rfl, rfl⟩)) z_su ?_; clear z_ex)
      ((repeat refine WpM.seq ?_); have z_ex := (And.intro @wrap_id True.intro); refine WpM.regPE [] [(1, _), (2, _), (3, _), (4, _)] (by (refine s_o [(4, _)] rfl rfl rfl z_su rfl q_move z_fp z_ss ?_; refine s_o [(18, _)] rfl rfl rfl z_su rfl q_full z_fp z_ss ?_; refine s_o [(19, _)] rfl rfl rfl z_su rfl q_move z_fp z_ss ?_; exact wpS_nil ⟨rfl, rfl⟩)) z_su ?_; clear z_ex)
      exact round_end (x' := j + 1) (le_cut (l' := [(n0, some (.box [.d (strs h.keys), .d (.sl (h.txns.map encTxn))])), (n0 + 1, some (.box [.nil, .nil])), (n0 + 7, some (.box [.d (strs h.keys), .ms (ny + 13) 5 0 (xs.length + 1)])), (ny + 13, some (.row 5 (xs ++ [V.d (encTxn t)])))]) hH (by (simp (maxSteps := 2000000) (disch := omega) [go_sem, -List.map_map]); omega) (Nat.le_refl _) (by (simp (maxSteps := 2000000) (disch := omega) [go_sem, -List.map_map, encTxn]))) (frLe_frOf (by (simp (maxSteps := 2000000) (disch := omega) [go_sem, -List.map_map, wrap_id]))) ⟨by omega, ny + 19, ny + 13, _, by omega, by omega, hxs', rfl, by (simp (maxSteps := 2000000) (disch := omega) [go_sem, -List.map_map])⟩ (by omega)
  · ((repeat refine WpM.seq ?_); refine WpM.condF (by (simp (maxSteps := 2000000) (disch := omega) [go_sem, -List.map_map, hlt])) ?_)
    (refine WpM.exit ?_; (repeat (with_reducible (first | refine thenM_exit ?_ | refine blockM_eq ?_ | refine blockM_ne (by decide) ?_))))
    obtain rfl : j = h.txns.length := by omega
    rw [List.take_length] at hxs
    refine Upd.wp (Upd.freezeIn (n0 + 7) 1 (cs := [.d (strs h.keys), .ms nm 5 0 xs.length]) (xs := xs) (h.txns.map encTxn) (by (simp (maxSteps := 2000000) (disch := omega) [go_sem, -List.map_map])) (by rfl) (by (simp (maxSteps := 2000000) (disch := omega) [go_sem, -List.map_map])) (by rw [List.drop_zero, List.take_length, hxs, List.map_map]; rfl) (by simp [hxs]) (Upd.done ?_))
    ((repeat refine WpM.seq ?_); have z_ex := (And.intro @strs.eq_1 True.intro); refine WpM.regPE [] [(2, _)] (by (refine s_o [(3, _)] rfl rfl rfl z_su rfl q_full z_fp z_ss ?_; refine s_o [(2, _), (63, _)] rfl rfl rfl z_su rfl q_full z_fp z_ss ?_; exact wpS_nil ⟨rfl, rfl⟩)) z_su ?_; clear z_ex)
    (refine WpM.ret ?_; refine ⟨.inr rfl, Upd.done ?_⟩; (simp (maxSteps := 2000000) (disch := omega) [go_sem, -List.map_map, resV, resVs, resV1, encHist, strs]))
    omega
end Go.Proofs.Ytjjmedgibcffhaa
/- assizelaw05.IndexChecks. -/
namespace Go.Proofs.Ytjjmedgibcffhaa
open Go.RowKit M
set_option linter.unusedSimpArgs false
set_option linter.unusedVariables false
set_option maxHeartbeats 8000000 in
theorem law10 (h : HistD) (hh : HistOk h) : PureC Try.prog 10 [.d (encHist h)] (.d (.bool true)) := by
  refine PureC.of (n := 18) Try.func10 rfl rfl (by simp) (by simp only [argL, Nat.reduceAdd] <;> rfl) rfl ?_
  intro n0 H hH
  have hcp := copy31 h hh.b
  have h32 := check32 h hh
  have h33 := check33 h hh
  have hsm := same30 h hh.b
  obtain ⟨e, he⟩ : ∃ e, e = errnoOf (checkB h) := ⟨_, rfl⟩
  rw [← he] at h32 h33
  ((repeat refine WpM.seq ?_); have z_ex := (And.intro @encHist.eq_1 True.intro); refine WpM.regPE [] [(1, _)] (by (refine s_o [(0, _)] rfl rfl rfl z_su rfl q_box z_fp z_ss ?_; refine s_o [] rfl rfl rfl z_su rfl q_move z_fp z_ss ?_; exact wpS_nil ⟨rfl, rfl⟩)) z_su ?_; clear z_ex)
  ((repeat refine WpM.seq ?_); have z_ex := True.intro; refine WpM.regPE [] [(1, _), (5, _)] (by (refine s_pure (callOf_eq rfl rfl rfl mlk_nil) (alive27) rfl rfl z_ip z_fp ?_; refine s_o [(4, _)] rfl rfl rfl z_su rfl q_unOp z_fp z_ss ?_; exact wpS_nil ⟨rfl, rfl⟩)) z_su ?_; clear z_ex)
  ((repeat refine WpM.seq ?_); refine WpM.condF (by (simp (maxSteps := 2000000) (disch := omega) [go_sem, -List.map_map])) ?_)
  refine WpM.skip ?_
  ((repeat refine WpM.seq ?_); have z_ex := (And.intro @encHist.eq_1 True.intro); refine WpM.regPE [] [(1, _), (3, _)] (by (refine s_o [(1, _)] rfl rfl rfl z_su rfl q_load z_fp z_ss ?_; refine s_pure (callOf_eq rfl rfl rfl (mlk_tmp z_lk mlk_nil)) (hcp) rfl rfl z_ip z_fp ?_; refine s_o [] rfl rfl rfl z_su rfl q_alloc z_fp z_ss ?_; refine s_o [(3, _), (7, _)] rfl rfl rfl z_su rfl q_store z_fp z_ss ?_; exact wpS_nil ⟨rfl, rfl⟩)) z_su ?_; clear z_ex)
  ((repeat refine WpM.seq ?_); have z_ex := True.intro; refine WpM.drwPE [] [(2, _)] mixed (by kernel_rfl) (by kernel_rfl) [(1, 2)] (by kernel_rfl) (by (refine d_o [(3, _)] rfl rfl rfl z_su rfl q_load z_fp z_ss rfl ?_; refine d_pure (callOf_eq rfl rfl rfl (mlk_tmp z_lk mlk_nil)) (h32) rfl rfl z_ip rfl z_fp ?_; refine d_o [(1, _)] rfl rfl rfl z_su rfl q_load z_fp z_ss rfl ?_; refine d_pure (callOf_eq rfl rfl rfl (mlk_tmp z_lk mlk_nil)) (h33) rfl rfl z_ip rfl z_fp ?_; refine d_o [(9, _), (11, _)] rfl rfl rfl z_su rfl q_full z_fp z_ss rfl ?_; refine d_o [(12, _)] rfl rfl rfl z_su rfl q_move z_fp z_ss rfl ?_; refine d_wit ?_; intro z_g; (first | refine d_skip rfl z_g z_fp ?_ | (refine d_o [(3, _)] rfl z_g rfl z_su rfl q_load z_fp z_ss rfl ?_)); clear z_g; refine d_wit ?_; intro z_g; (first | refine d_skip rfl z_g z_fp ?_ | (refine d_o [(1, _)] rfl z_g rfl z_su rfl q_load z_fp z_ss rfl ?_)); clear z_g; refine d_wit ?_; intro z_g; (first | refine d_skip rfl z_g z_fp ?_ | (refine d_pure (callOf_eq rfl rfl rfl (mlk_tmp z_lk (mlk_tmp z_lk mlk_nil))) (hsm) rfl z_g z_ip rfl z_fp ?_)); clear z_g; refine d_o [(13, _), (16, _)] rfl rfl rfl z_su rfl q_move z_fp z_ss rfl ?_; refine d_o [(17, _)] rfl rfl rfl z_su rfl q_move z_fp z_ss rfl ?_; exact d_end z_mt z_sn)) z_su ?_; clear z_ex)
  (refine WpM.ret ?_; refine ⟨.inr rfl, Upd.done ?_⟩; (simp (maxSteps := 2000000) (disch := omega) [go_sem, -List.map_map, resV, resVs, resV1,]))
end Go.Proofs.Ytjjmedgibcffhaa
