/- assizelaw05.alive. -/
import Derived.Test.YtjjmedgibcffhaaROp2
import Derived.Test.YtjjmedgibcffhaaRIx16
import Derived.Test.YtjjmedgibcffhaaRIx20
namespace Go.Proofs.Ytjjmedgibcffhaa
open Go.RowKit M
set_option linter.unusedSimpArgs false
set_option linter.unusedVariables false
def yB : ByteArray := ⟨#[121]⟩
def aCall : CallD := ⟨2, yB, 5, false, []⟩
def aEvs : List EventD := [⟨0, 0, [aCall]⟩, ⟨0, 1, [aCall]⟩]
def aHist : HistD := ⟨[yB], [⟨0, 1, 0, 1, [⟨2, 0, 5, false, []⟩]⟩]⟩
theorem aCall_ok (e : Int) : callOk aCall e = true := by simp [callOk, aCall, yB, ByteArray.toList_eq, ByteArray.size]
theorem aEv_ok (p k : Int) (h0 : 0 ≤ k) (h3 : k ≤ 3) : eventOk ⟨p, k, [aCall]⟩ = true := by simp [eventOk, aCall_ok, h0, h3]
theorem aEvs_listOk : listOk aEvs = true := by simp [listOk, aEvs, aEv_ok]
theorem aEvs_pairs : pairsF aEvs = .ok [⟨0, 1, 1⟩] := by
  have h1 : pairsSt aEvs 1 = .ok ([⟨0, -1, 3⟩], upd (fun _ => none) 0 (some 0)) := by
    rw [pairsSt_succ (ps := []) (op := fun _ => none) rfl (by decide)]
    simp [pairStep, aEvs]
  have h2 : pairsSt aEvs 2 = .ok ([⟨0, 1, 1⟩], upd (upd (fun _ => none) 0 (some 0)) 0 none) := by
    rw [pairsSt_succ h1 (by decide)]
    simp [pairStep, aEvs, upd_same, matchB, callsEq, callEq]
  rw [pairsF, if_pos aEvs_listOk]
  show (match pairsSt aEvs 2 with | .error j => _ | .ok s => _) = _
  rw [h2]
theorem aEvs_build : buildF aEvs = (aHist, 0, 0) := by
  rw [buildF, aEvs_pairs]
  simp [buildSt, buildStep, ev, aEvs, entersE, enterB, addB, putB, findN, Bk.push, Bk.empty, tyOf, aCall, txnOf, callsFor, opOf, aHist]
theorem aHist_check : checkB aHist = true := by
  have e1 : evOf aHist.keys ⟨0, 1, 0, 1, [⟨2, 0, 5, false, []⟩]⟩ = ⟨0, 1, [aCall]⟩ := by simp [evOf, aHist, okKey, callOf', aCall]
  have e2 : eventOk ⟨0, 1, [aCall]⟩ = true := aEv_ok _ _ (by decide) (by decide)
  have e3 : evOkB aHist.keys ⟨0, 1, 0, 1, [⟨2, 0, 5, false, []⟩]⟩ = true := by rw [evOkB, e1, e2]; simp [aHist, okKey]
  have e4 : placedB ([] : List TxnD) ⟨0, 1, 0, 1, [⟨2, 0, 5, false, []⟩]⟩ = true := by simp [placedB]
  have e5 : stepT aHist 0 Bk.empty = enters Bk.empty [aCall] 0 := by
    unfold stepT
    simp only [show aHist.txns[0]? = some ⟨0, 1, 0, 1, [⟨2, 0, 5, false, []⟩]⟩ from rfl, List.take_zero, e3, e4, e1, Bool.and_self, if_true]
    rfl
  have e6 : (enters Bk.empty [aCall] 0).isSome = true := by simp [enters, enterB, addB, putB, findN, Bk.push, Bk.empty, tyOf, aCall]
  have e7 : namesB aHist.keys = true := by simp [namesB, nameB, aHist, findN, yB, ByteArray.size]
  rw [checkB, e7]
  have : checkSt aHist aHist.txns.length = stepT aHist 0 Bk.empty := rfl
  rw [this, e5, e6]
  simp [aHist]
theorem aHist_type : typeF aHist 0 = 2 := by
  rw [typeF, if_pos aHist_check]
  simp [allOps, aHist, tyOf]
theorem aHist_final : finalV aHist 0 0 = .tup [.d (.sl [.int .i64 5]), .d (.bool true)] := by
  have := finalV_good (h := aHist) (t := 0) (key := 0) (by decide) aHist_check
  have e : finalV aHist 0 0 = finalV aHist ((0 : Nat) : Int) 0 := rfl
  rw [e, this]
  simp [aHist, wroteL, wrP]
theorem aEmpty_check : checkB ⟨[⟨#[]⟩], []⟩ = false := by
  have : namesB [⟨#[]⟩] = false := by simp [namesB, nameB, ByteArray.size]
  rw [checkB, this]
  rfl
theorem aEvs_ok : SlOk EventOk 40 aEvs := by
  have hc : CallOk aCall := ⟨(by decide : (Lit.int .i64 2).wf = true), by decide, (by decide : (Lit.int .i64 5).wf = true), by decide, by simp [aCall]⟩
  refine ⟨by decide, fun e he => ?_⟩
  simp only [aEvs, List.mem_cons, List.not_mem_nil, or_false] at he
  rcases he with rfl | rfl
  · exact ⟨(by decide : (Lit.int .i64 0).wf = true), (by decide : (Lit.int .i64 0).wf = true), by decide, fun c hc' => by simp at hc'; rw [hc']; exact hc⟩
  · exact ⟨(by decide : (Lit.int .i64 0).wf = true), (by decide : (Lit.int .i64 1).wf = true), by decide, fun c hc' => by simp at hc'; rw [hc']; exact hc⟩
theorem aHist_ok : HistOk aHist := by
  refine ⟨⟨by decide, fun s hs => ?_⟩, by decide, fun t ht => ?_⟩
  · simp [aHist] at hs; subst hs; decide
  · simp [aHist] at ht
    subst ht
    refine ⟨(by decide : (Lit.int .i64 0).wf = true), (by decide : (Lit.int .i64 1).wf = true), (by decide : (Lit.int .i64 0).wf = true), (by decide : (Lit.int .i64 1).wf = true), by simp, fun o ho => ?_⟩
    simp at ho
    subst ho
    exact ⟨(by decide : (Lit.int .i64 2).wf = true), (by decide : (Lit.int .i64 0).wf = true), (by decide : (Lit.int .i64 5).wf = true), by simp, by simp⟩
theorem aEmpty_ok : HistOk ⟨[⟨#[]⟩], []⟩ := ⟨⟨by simp, fun s hs => by simp at hs; subst hs; decide⟩, by simp, by simp⟩
theorem PureC.arg1 {P : Program} {f : FuncId} {x x' r : V} (h : PureC P f [x'] r) (hx : ∀ {g : Gh} {w : World} {v : Value}, RV g w x v → RV g w x' v) : PureC P f [x] r := by
  intro S g w vals h1 h2 h3 h4
  refine h S g w vals h1 h2 h3 fun j y hy => ?_
  match j, hy with
  | 0, hy => simp at hy; subst hy; exact hx (h4 0 x rfl)
  | j + 1, hy => simp at hy
set_option maxHeartbeats 8000000 in
theorem alive27 : PureC Try.prog 27 [] (.d (.bool true)) := by
  refine PureC.of (n := 70) Try.func27 rfl rfl (by simp) rfl rfl ?_
  intro n0 H hH
  have hbuild := build28 aEvs aEvs_ok
  rw [buildV, aEvs_build] at hbuild
  rw [show (V.tup [.d (encHist aHist), fltV (0, 0)]) = .tup [.d (.agg [.sl [.str ⟨#[121]⟩], .sl [.agg [.int .i64 0, .int .i64 1, .int .i64 0, .int .i64 1, .sl [.agg [.int .i64 2, .int .i64 0, .int .i64 5, .bool false, .sl []]]]]]), .d (.agg [.int .i64 0, .int .i64 0])] from rfl] at hbuild
  have hfin := final36 aHist aHist_ok 0 0
  rw [aHist_final] at hfin
  have hty := type34 aHist aHist_ok 0
  rw [aHist_type] at hty
  have hck := check32 ⟨[⟨#[]⟩], []⟩ aEmpty_ok
  rw [aEmpty_check, errno_f] at hck
  have hck2 : PureC Try.prog 32 [.agg [.d (.sl [.str ⟨#[]⟩]), .nil]] (.d (.int .i64 1)) := PureC.arg1 hck fun {g w v} h => by
    cases h with
    | agg xs vs hl hr =>
      refine .d (.agg _ vs (by simpa using hl) fun j y hy => ?_)
      match j, hy with
      | 0, hy =>
        simp at hy
        subst hy
        have := hr 0 _ rfl
        cases this with | d this => exact this
      | 1, hy =>
        simp at hy
        subst hy
        have := hr 1 _ rfl
        generalize vs.getD 1 undef = q at this
        cases this
        exact .slNil _ _
      | j + 2, hy => simp at hy
  ((repeat refine WpM.seq ?_); have z_ex := True.intro; refine WpM.regPE [] [] (by (refine s_m [] ?_; exact wpS_nil ⟨rfl, rfl⟩)) z_su ?_; clear z_ex)
  ((repeat refine WpM.seq ?_); have z_ex := True.intro; refine WpM.regPE [7] [(1, _)] (by (refine s_g [] ?_; refine s_q [(6, _)] ?_; refine s_m [(7, _)] ?_; exact wpS_nil ⟨rfl, rfl⟩)) z_su ?_; clear z_ex)
  refine Upd.wp (Upd.rowNil (n0 + 2) (sz := 5) (ys := [.d (.int .i64 2), .d (.str ⟨#[121]⟩), .d (.int .i64 5), .d (.bool false), .nil]) (by (simp (maxSteps := 2000000) (disch := omega) [go_sem, -List.map_map])) (Upd.freeze 1 (nm := n0 + 2) (sz := 5) (o := 0) (m := 1) (xs := [.d (.agg [.int .i64 2, .str ⟨#[121]⟩, .int .i64 5, .bool false, .sl []])]) [.agg [.int .i64 2, .str ⟨#[121]⟩, .int .i64 5, .bool false, .sl []]] (by (simp (maxSteps := 2000000) (disch := omega) [go_sem, -List.map_map])) (by (simp (maxSteps := 2000000) (disch := omega) [go_sem, -List.map_map, nilC])) rfl rfl (Upd.done ?_)))
  refine WpM.less (le_cut (n0 := n0) (n' := n0 + 4) (l' := []) hH (by (simp (maxSteps := 2000000) (disch := omega) [go_sem, -List.map_map])) (by (simp (maxSteps := 2000000) (disch := omega) [go_sem, -List.map_map])) (by (simp (maxSteps := 2000000) (disch := omega) [go_sem, -List.map_map]))) (frLe_frOf (l := [(1, .d (.sl [.agg [.int .i64 2, .str ⟨#[121]⟩, .int .i64 5, .bool false, .sl []]]))]) (by (simp (maxSteps := 2000000) (disch := omega) [go_sem, -List.map_map, fset]))) ?_
  ((repeat refine WpM.seq ?_); have z_ex := True.intro; refine WpM.regPE [] [(2, _), (3, _)] (by (refine s_m [(1, _)] ?_; refine s_g [(9, _)] ?_; refine s_m [(1, _)] ?_; refine s_g [(11, _)] ?_; refine s_q [(10, _), (12, _)] ?_; refine s_pure (callOf_eq rfl rfl rfl (mlk_tmp z_lk mlk_nil)) (hbuild) rfl rfl z_ip z_fp ?_; refine s_m [(14, _)] ?_; refine s_x [(8, _)] ?_; refine s_x [(8, _)] ?_; refine s_a [] ?_; refine s_a [] ?_; refine s_s [(2, _), (15, _)] ?_; refine s_s [(3, _), (16, _)] ?_; exact wpS_nil ⟨rfl, rfl⟩)) z_su ?_; clear z_ex)
  ((repeat refine WpM.seq ?_); have z_ex := True.intro; refine WpM.regPE [] [(2, _), (3, _), (4, _), (5, _)] (by (refine s_l [(2, _)] ?_; refine s_pure (callOf_eq rfl rfl rfl (mlk_tmp z_lk (mlk_const rfl (mlk_const rfl mlk_nil)))) (hfin) rfl rfl z_ip z_fp ?_; refine s_m [(19, _)] ?_; refine s_x [(17, _)] ?_; refine s_x [(17, _)] ?_; refine s_m [(20, _)] ?_; refine s_m [(21, _)] ?_; exact wpS_nil ⟨rfl, rfl⟩)) z_su ?_; clear z_ex)
  ((repeat refine WpM.seq ?_); have z_ex := True.intro; refine WpM.regPE [] [(0, _)] (by (refine s_f [(3, _)] ?_; refine s_l [(22, _)] ?_; refine s_q [(23, _)] ?_; refine s_m [(24, _)] ?_; refine s_wit ?_; intro z_g; (first | refine s_skip rfl z_g z_fp ?_ | (refine s_f [(2, _)] ?_ (hg := z_g))); clear z_g; refine s_wit ?_; intro z_g; (first | refine s_skip rfl z_g z_fp ?_ | (refine s_l [(26, _)] ?_ (hg := z_g))); clear z_g; refine s_wit ?_; intro z_g; (first | refine s_skip rfl z_g z_fp ?_ | (refine s_q [(27, _)] ?_ (hg := z_g))); clear z_g; refine s_wit ?_; intro z_g; (first | refine s_skip rfl z_g z_fp ?_ | (refine s_q [(28, _)] ?_ (hg := z_g))); clear z_g; refine s_m [(25, _), (29, _)] ?_; refine s_m [(30, _)] ?_; refine s_wit ?_; intro z_g; (first | refine s_skip rfl z_g z_fp ?_ | (refine s_f [(2, _)] ?_ (hg := z_g))); clear z_g; refine s_wit ?_; intro z_g; (first | refine s_skip rfl z_g z_fp ?_ | (refine s_l [(32, _)] ?_ (hg := z_g))); clear z_g; refine s_wit ?_; intro z_g; (first | refine s_skip rfl z_g z_fp ?_ | (refine s_q [(33, _)] ?_ (hg := z_g))); clear z_g; refine s_wit ?_; intro z_g; (first | refine s_skip rfl z_g z_fp ?_ | (refine s_q [(34, _)] ?_ (hg := z_g))); clear z_g; refine s_m [(31, _), (35, _)] ?_; refine s_m [(36, _)] ?_; refine s_wit ?_; intro z_g; (first | refine s_skip rfl z_g z_fp ?_ | (refine s_f [(2, _)] ?_ (hg := z_g))); clear z_g; refine s_wit ?_; intro z_g; (first | refine s_skip rfl z_g z_fp ?_ | (refine s_l [(38, _)] ?_ (hg := z_g))); clear z_g; refine s_wit ?_; intro z_g; (first | refine s_skip rfl z_g z_fp ?_ | (refine s_q [(39, _)] ?_ (hg := z_g))); clear z_g; refine s_wit ?_; intro z_g; (first | refine s_skip rfl z_g z_fp ?_ | (refine s_f [(40, _)] ?_ (hg := z_g))); clear z_g; refine s_wit ?_; intro z_g; (first | refine s_skip rfl z_g z_fp ?_ | (refine s_l [(41, _)] ?_ (hg := z_g))); clear z_g; refine s_wit ?_; intro z_g; (first | refine s_skip rfl z_g z_fp ?_ | (refine s_q [(42, _)] ?_ (hg := z_g))); clear z_g; refine s_m [(37, _), (43, _)] ?_; refine s_m [(44, _)] ?_; refine s_wit ?_; intro z_g; (first | refine s_skip rfl z_g z_fp ?_ | (refine s_l [(2, _)] ?_ (hg := z_g))); clear z_g; refine s_wit ?_; intro z_g; (first | refine s_skip rfl z_g z_fp ?_ | (refine s_pure (callOf_eq rfl rfl rfl (mlk_tmp z_lk (mlk_const rfl mlk_nil))) (hty) rfl z_g z_ip z_fp ?_)); clear z_g; refine s_wit ?_; intro z_g; (first | refine s_skip rfl z_g z_fp ?_ | (refine s_q [(47, _)] ?_ (hg := z_g))); clear z_g; refine s_m [(45, _), (48, _)] ?_; refine s_m [(49, _)] ?_; refine s_wit ?_; intro z_g; (first | refine s_skip rfl z_g z_fp ?_ | (refine s_m [(5, _)] ?_ (hg := z_g))); clear z_g; refine s_m [(50, _), (51, _)] ?_; refine s_m [(52, _)] ?_; refine s_wit ?_; intro z_g; (first | refine s_skip rfl z_g z_fp ?_ | (refine s_m [(4, _)] ?_ (hg := z_g))); clear z_g; refine s_wit ?_; intro z_g; (first | refine s_skip rfl z_g z_fp ?_ | (refine s_q [(54, _)] ?_ (hg := z_g))); clear z_g; refine s_wit ?_; intro z_g; (first | refine s_skip rfl z_g z_fp ?_ | (refine s_q [(55, _)] ?_ (hg := z_g))); clear z_g; refine s_m [(53, _), (56, _)] ?_; refine s_m [(57, _)] ?_; refine s_wit ?_; intro z_g; (first | refine s_skip rfl z_g z_fp ?_ | (refine s_m [(4, _)] ?_ (hg := z_g))); clear z_g; refine s_wit ?_; intro z_g; (first | refine s_skip rfl z_g z_fp ?_ | (refine s_q [(59, _)] ?_ (hg := z_g))); clear z_g; refine s_wit ?_; intro z_g; (first | refine s_skip rfl z_g z_fp ?_ | (refine s_l [(60, _)] ?_ (hg := z_g))); clear z_g; refine s_wit ?_; intro z_g; (first | refine s_skip rfl z_g z_fp ?_ | (refine s_q [(61, _)] ?_ (hg := z_g))); clear z_g; refine s_m [(58, _), (62, _)] ?_; refine s_m [(63, _)] ?_; refine s_wit ?_; intro z_g; (first | refine s_skip rfl z_g z_fp ?_ | (refine s_q [] ?_ (hg := z_g))); clear z_g; refine s_wit ?_; intro z_g; (first | refine s_skip rfl z_g z_fp ?_ | (refine s_g [(65, _)] ?_ (hg := z_g))); clear z_g; refine s_wit ?_; intro z_g; (first | refine s_skip rfl z_g z_fp ?_ | (refine s_pure (callOf_eq rfl rfl rfl (mlk_tmp z_lk mlk_nil)) (hck2) rfl z_g z_ip z_fp ?_)); clear z_g; refine s_wit ?_; intro z_g; (first | refine s_skip rfl z_g z_fp ?_ | (refine s_q [(67, _)] ?_ (hg := z_g))); clear z_g; refine s_m [(64, _), (68, _)] ?_; refine s_m [(69, _)] ?_; exact wpS_nil ⟨rfl, rfl⟩)) z_su ?_; clear z_ex)
  (refine WpM.ret ?_; refine ⟨.inr rfl, Upd.done ?_⟩; (simp (maxSteps := 2000000) (disch := omega) [go_sem, -List.map_map, resV, resVs, resV1,]))
end Go.Proofs.Ytjjmedgibcffhaa
