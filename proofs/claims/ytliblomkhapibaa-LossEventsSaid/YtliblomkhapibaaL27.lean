import Derived.Test.YtliblomkhapibaaL26
set_option maxRecDepth 100000
set_option maxHeartbeats 4000000
set_option linter.unusedSimpArgs false
set_option linter.unusedVariables false
namespace Ph
open Go Go.Proofs
attribute [local irreducible] Value.cells
attribute [local go_sem ↓] y_move y_assign y_pick y_nil y_bin y_un y_fa y_field y_ext y_ia y_ix y_slice y_build y_mf y_load y_len y_min y_max y_conv y_bs y_mk y_alloc y_box y_store y_clear y_app y_callf y_callt s_move s_assign s_pick s_nil s_bin s_un s_fa s_field s_ext s_ia s_ix s_slice s_conv s_build s_bs s_mf s_alloc s_box s_load s_store s_len s_clear s_min s_max s_app s_call q_call q_move q_assign q_pick q_nil q_bin q_un q_fa q_field q_ext q_ia q_ix q_slice q_conv q_build q_mf q_load q_len q_min q_max l_nil l_move l_assign l_pick l_nilc l_bin l_un l_fa l_field l_ext l_ia l_ix l_slice l_conv l_build l_mf l_load l_len l_min l_max l_call put_eq putN_eq o_nil o_plain o_gate v_nil v_plain v_gate vc_skip vc_region vc_seq vc_cond vc_block vc_loop vc_rf vc_exit vc_ret blk_normal blk_ret blk_exit on_normal on_ret on_exit vc_drawn draw_q s_mk l_bs l_mk l_alloc l_box l_store l_app l_clear pl_done pl_takeS pl_take pl_alt pl_stop one_plain one_gate
attribute [local go_sem] clear_nil clear_sl onAgg_a onTuple_t onFn_f onFn_y onFunc_f c_int c_nil c_sl c_str sl_sl sl_nil sl_str ix_str ix_agg n_nil n_sl n_str app_eq k_nil k_sl len_sl len_str upd_some upd_none ev_tmp ev_const ev_func rd_some gdst_eq otmp_t otmp_c get_put get_alloc next_put next_alloc get_app next_app init_a resV1 resV2 onPtr_ptr onBool_b onInt_i onSlice_s onSome_s onCells_c lett_eq gate_tt gate_tf gate_ff gate_ft gate_dt gate_df also_eq bin un minmax io_none io_some bo_none bo_some partOf List.getElem?_cons_zero List.getElem?_cons_succ List.getElem?_toArray Option.map_some Option.map_none Option.bind_some ne_eq not_true_eq_false not_false_eq_true false_implies true_implies and_true true_and and_self Bool.false_eq_true Nat.zero_add Nat.add_zero List.size_toArray List.length_cons List.length_nil List.map_toArray List.map_cons List.map_nil Array.getD_eq_getD_getElem? Option.getD_some Bool.not_true Bool.not_false Bool.not_eq_true Option.isNone_some Option.isNone_none List.append_toArray List.append_nil List.nil_append List.cons_append decide_true decide_false in_nil in_cons Bool.and_false Bool.and_true Bool.or_false Bool.true_or Bool.false_or get_mask next_mask get_unmask next_unmask ac_move ac_assign ac_pick ac_nil ac_bin ac_un ac_fa ac_field ac_ext ac_ia ac_ix ac_slice ac_build ac_mf ac_call ac_load ac_conv accP_p accS_s accS_n accS_i accS_t fixed_ro fixed_lock fixed_own get_ro next_ro lock_live' lock_cells List.mem_cons List.not_mem_nil or_false false_or or_true true_or and_false false_and IntKind.bits Int.natCast_zero Int.natCast_one size_str data_str list_str mk_str ext_str app_str bytes_str w_byte w_byteu Int.toNat_natCast Int.toNat_zero Int.toNat_one Nat.sub_zero ge_iff_le gt_iff_lt Nat.le_refl Int.le_refl List.drop_zero Int.ofNat_eq_natCast Int.natCast_nonneg Int.sub_zero oc_int oc_bool oc_str oc_ptr oc_sl oc_map oc_func List.set_cons_zero List.set_cons_succ Nat.mul_one List.all_cons List.all_nil Bool.and_self res_nil res_tmp res_cell tup_one tup_two tup_nil fill_nil repl_zero cells_agg List.append_eq List.toList_toArray Nat.zero_mul Nat.one_mul repl_one repl_two onSome_build fill_cons onSome_lit splice_eq cells_int cells_bool cells_str cells_ptr cells_sl cells_map cells_func loadK_n loadK_s load_k storeK_n storeK_s store_k all_arr List.take_zero List.take_succ_cons List.drop_succ_cons List.take_nil List.drop_nil lk_own lk_ro lk_lock lk_lk fixed_lk gate_nt gate_nf gate3_b gate3_u undef Bool.true_and Bool.false_and nx_l nx_r nx_lt put_put resV0
/-! LossEvents: the document's Timer and Fire. -/
theorem offX_num (f : Pk → Bool) (x : RP) : (offX f x).num = x.num ∧ (offX f x).at_ = x.at_ := by unfold offX; split <;> exact ⟨rfl, rfl⟩
theorem top_off (f : Pk → Bool) (L : List RP) : topOf (L.map (offX f)) = topOf L := by
  unfold topOf
  rw [List.getLast?_map]
  cases L.getLast? with
  | none => rfl
  | some x => exact (offX_num f x).1
structure RI (L : List RP) (s : St) : Prop where
  ok : Ok s
  waits : s.waits = waitsOf L
  top : s.top = topOf L
  asc : L.Pairwise fun a b => a.num < b.num ∧ a.at_ ≤ b.at_
  past : ∀ x ∈ L, x.at_ ≤ s.now ∧ x.num ≤ s.top
theorem RI.off {L : List RP} {s s' : St} (hI : RI L s) (f : Pk → Bool) (hok : Ok s') (hw : s'.waits = s.waits.filter fun x => !f x) (ht : s'.top = s.top) (hn : s.now ≤ s'.now) : RI (L.map (offX f)) s' := by
  refine ⟨hok, by rw [hw, hI.waits, waits_off], by rw [top_off, ht, hI.top], ?_, fun x hx => ?_⟩
  · rw [List.pairwise_map]
    exact hI.asc.imp fun {a b} h => by rw [(offX_num f a).1, (offX_num f a).2, (offX_num f b).1, (offX_num f b).2]; exact h
  · obtain ⟨y, hy, e⟩ := List.mem_map.1 hx
    have := hI.past y hy
    rw [← e, (offX_num f y).1, (offX_num f y).2, ht]; omega
theorem RI.new : RI [] newS := ⟨newS_ok, rfl, rfl, List.Pairwise.nil, by simp⟩
theorem RI.at {L : List RP} {s : St} (hI : RI L s) {at_ : Int} (h1 : s.now ≤ at_) (h2 : at_ ≤ 1099511627776) : RI L { s with now := at_ } :=
  ⟨hI.ok.at h1 h2, hI.waits, hI.top, hI.asc, fun x hx => ⟨by have := (hI.past x hx).1; simp only; omega, (hI.past x hx).2⟩⟩
theorem RI.give {L : List RP} {s : St} (hI : RI L s) : RI (L.map (offX (giveP s.best (s.now - waitT s)))) (giveS s s.now) := by
  obtain ⟨h1, h2, h3⟩ := give_waits s s.now
  exact hI.off _ hI.ok.give h1 h2 (by rw [h3]; exact Int.le_refl _)
theorem RI.sent {L : List RP} {s : St} (hI : RI L s) {num size at_ : Int} {asks : Bool} (hl : L.length < 100000) (hok : sentOk s num size at_ = true) : RI (L ++ [⟨num, size, asks, at_, true⟩]) (sentS s num size asks at_) := by
  have hwl : s.waits.length < 100000 := by
    rw [hI.waits]; unfold waitsOf; rw [List.length_map]
    have := List.length_filter_le (·.on) L; omega
  have h2 := hok
  simp only [sentOk, timeOk, Bool.and_eq_true, decide_eq_true_eq] at h2
  refine ⟨hI.ok.sent hwl hok, ?_, by simp [sentS, topOf], ?_, fun x hx => ?_⟩
  · simp [sentS, hI.waits, waitsOf, RP.pk]
  · rw [List.pairwise_append]
    refine ⟨hI.asc, by simp, fun a ha b hb => ?_⟩
    have := hI.past a ha
    simp at hb; rw [hb]; simp only; omega
  · rcases List.mem_append.1 hx with h1 | h1
    · have := hI.past x h1
      simp only [sentS]; omega
    · simp at h1; rw [h1]; simp [sentS]
theorem pw_at {L : List RP} (hasc : L.Pairwise fun a b => a.num < b.num ∧ a.at_ ≤ b.at_) {i : Nat} {x : RP} (hx : L[i]? = some x) : ∀ y ∈ waitsOf (L.take i), y.num < x.num ∧ y.at_ ≤ x.at_ := fun y hy => by
  obtain ⟨z, hz, e⟩ := List.mem_map.1 hy
  have hz1 := (List.mem_filter.1 hz).1
  have hi := List.getElem?_eq_some_iff.1 hx
  have h1 : (L.take i ++ L.drop i).Pairwise fun a b => a.num < b.num ∧ a.at_ ≤ b.at_ := by rw [List.take_append_drop]; exact hasc
  have h2 := (List.pairwise_append.1 h1).2.2 z hz1 x (by rw [List.drop_eq_getElem_cons hi.1, hi.2]; simp)
  rw [← e]; exact h2
theorem rwaitV_ph (h : Heap) (m : Nat) (L : List RP) (s : St) (hV : RefV h m L s) (hs : Ok s) :
    @CallsH Try.prog 43 #[.pointer (some ⟨m, 0, none⟩)] h ⟨fun u _ => u = .int .i64 (waitT s)⟩ := by
  obtain ⟨w, o, h1, h2, _⟩ := hV
  exact rwait_ph h m w o s h2 hs
def T1 (s : St) (W : List Pk) (b : Bool) (a : Int) : Prop := (b = false → a = 0 ∧ ∀ x ∈ W, ¬ x.num < s.best) ∧ (b = true → ∃ y, W.head? = some y ∧ y.num < s.best ∧ a = y.at_ + waitT s)
theorem rtimer_ph (h : Heap) (m : Nat) (L : List RP) (s : St) (hV : RefV h m L s) (hs : Ok s) (hw : s.waits = waitsOf L) (hasc : L.Pairwise fun a b => a.num < b.num ∧ a.at_ ≤ b.at_) (hl : L.length ≤ 100000) :
    @CallsH Try.prog 25 #[.pointer (some ⟨m, 0, none⟩)] h ⟨fun u _ => u = tup3 (timerS s)⟩ := by
  have b1 := hs.smooth
  have b2 := hs.vary
  have b3 := hs.tries
  have b4 := hs.last
  have b5 := hs.now
  have hwt : 1 ≤ waitT s ∧ waitT s ≤ 1300000000000 := by unfold waitT; omega
  (refine calls_of_codeR (rs := [.tmp 2, .tmp 3, .tmp 4]) Try.func25 rfl rfl (by simp) ?_)
  (refine CodeH.seq' (CodeH.of_vc [] hm (by kernel_rfl) ?_); simp (config := { dsimp := false, maxSteps := 10000000 }) (disch := omega) only [go_sem, reduceIte, Nat.reduceEqDiff, reduceCtorEq, Nat.reduceAdd, Nat.reduceMul, Int.reduceToNat, Int.reduceLE, Int.reduceLT, Int.reduceEq, Int.reduceNe, Nat.reduceLeDiff, Int.reducePow, Nat.reducePow, Nat.reduceLT, Nat.reduceSub, Nat.reduceMod, Nat.reduceDiv, slot_neg, slot_pos, T.ag_3, T.ag_4, T.ag_57, T.ag_78, T.es_57, T.fo_59_0, T.fo_59_1, T.fo_59_10, T.fo_59_2, T.fo_59_3, T.fo_78_0, T.fo_78_2, T.fo_78_3, T.fo_78_4, T.gf_43, T.ib_3, T.ii_57, T.ip_3, T.s8_57, T.sl_57, T.st_57, T.un_57, T.zo_78, init_a])
  (refine CodeH.seq' (CodeH.of_vc [] hm (by kernel_rfl) ?_); simp (config := { dsimp := false, maxSteps := 10000000 }) (disch := omega) only [go_sem, reduceIte, Nat.reduceEqDiff, reduceCtorEq, Nat.reduceAdd, Nat.reduceMul, Int.reduceToNat, Int.reduceLE, Int.reduceLT, Int.reduceEq, Int.reduceNe, Nat.reduceLeDiff, Int.reducePow, Nat.reducePow, Nat.reduceLT, Nat.reduceSub, Nat.reduceMod, Nat.reduceDiv, slot_neg, slot_pos, T.ag_3, T.ag_4, T.ag_57, T.ag_78, T.es_57, T.fo_59_0, T.fo_59_1, T.fo_59_10, T.fo_59_2, T.fo_59_3, T.fo_78_0, T.fo_78_2, T.fo_78_3, T.fo_78_4, T.gf_43, T.ib_3, T.ii_57, T.ip_3, T.s8_57, T.sl_57, T.st_57, T.un_57, T.zo_78, init_a])
  refine CodeH.seq (fun r H => Upd h H [] ∧ ∃ (b : Bool) (a : Int), T1 s (waitsOf L) b a ∧ r 0 = .pointer (some ⟨m, 0, none⟩) ∧ r 5 = .int .i64 a ∧ r 6 = .bool b) ?_ ?_
  · (refine CodeH.of_vc [] hm (by kernel_rfl) ?_; simp (config := { dsimp := false, maxSteps := 10000000 }) (disch := omega) only [go_sem, reduceIte, Nat.reduceEqDiff, reduceCtorEq, Nat.reduceAdd, Nat.reduceMul, Int.reduceToNat, Int.reduceLE, Int.reduceLT, Int.reduceEq, Int.reduceNe, Nat.reduceLeDiff, Int.reducePow, Nat.reducePow, Nat.reduceLT, Nat.reduceSub, Nat.reduceMod, Nat.reduceDiv, slot_neg, slot_pos, T.ag_3, T.ag_4, T.ag_57, T.ag_78, T.es_57, T.fo_59_0, T.fo_59_1, T.fo_59_10, T.fo_59_2, T.fo_59_3, T.fo_78_0, T.fo_78_2, T.fo_78_3, T.fo_78_4, T.gf_43, T.ib_3, T.ii_57, T.ip_3, T.s8_57, T.sl_57, T.st_57, T.un_57, T.zo_78, init_a])
    refine loop_intro [] hm (fun r H => Upd h H [] ∧ ∃ (i : Nat) (b : Bool) (a : Int), i ≤ L.length ∧ T1 s (waitsOf (L.take i)) b a ∧ r 0 = .pointer (some ⟨m, 0, none⟩) ∧ r 5 = .int .i64 a ∧ r 6 = .bool b ∧ r 7 = .int .i64 i) (fun r _ => match r 7 with | .int _ i => L.length - i.toNat | _ => 0) ?_ ?_
    · exact ⟨Upd.refl _ _, 0, false, 0, by omega, ⟨fun _ => ⟨rfl, by simp [waitsOf]⟩, by simp⟩, by simp [upd, initR], by simp [upd], by simp [upd], by simp [upd]⟩
    · rintro r H ⟨hU, i, b, a, hi, hT, q0, q5, q6, q7⟩
      have hVH := hV.upd hU
      by_cases hil : i < L.length
      · have hlt : ((i : Int) < (L.length : Int)) = True := eq_true (by omega)
        have hx : L[i]? = some L[i] := List.getElem?_eq_getElem hil
        have hon := hs.pk L[i].pk
        have hmem : L[i].on = true → L[i].pk ∈ s.waits := fun e => by
          rw [hw]; exact List.mem_map.2 ⟨_, List.mem_filter.2 ⟨List.getElem_mem _, e⟩, rfl⟩
        obtain ⟨o, q, off, vs, ob, hmn, hqn, gm, gq, hRV, j1, j2⟩ := hVH.at hx
        have hta := waits_take hx
        have hpa := pw_at hasc hx
        generalize L[i] = x at *
        have hen : rpE.enc x = [.int .i64 x.num, .int .i64 x.size, .bool x.asks, .int .i64 x.at_, .bool x.on] := rfl
        rw [hen] at j1
        have w1 : IntKind.i64.wrap ((i : Int) + 1) = ((i + 1 : Nat) : Int) := by rw [i64wrap] <;> omega
        have hU2 : ∀ v, Upd h ((H.alloc (.cells [.int .i64 0, .int .i64 0, .bool false, .int .i64 0, .bool false] .own)).put H.next v) [] := fun v => hU.allocs.put (.inr hU.1)
        cases ho : x.on with
        | false =>
          rw [ho] at hta j1
          simp (config := { dsimp := false, maxSteps := 10000000 }) (disch := omega) only [go_sem, reduceIte, Nat.reduceEqDiff, reduceCtorEq, Nat.reduceAdd, Nat.reduceMul, Int.reduceToNat, Int.reduceLE, Int.reduceLT, Int.reduceEq, Int.reduceNe, Nat.reduceLeDiff, Int.reducePow, Nat.reducePow, Nat.reduceLT, Nat.reduceSub, Nat.reduceMod, Nat.reduceDiv, slot_neg, slot_pos, T.ag_3, T.ag_4, T.ag_57, T.ag_78, T.es_57, T.fo_59_0, T.fo_59_1, T.fo_59_10, T.fo_59_2, T.fo_59_3, T.fo_78_0, T.fo_78_2, T.fo_78_3, T.fo_78_4, T.gf_43, T.ib_3, T.ii_57, T.ip_3, T.s8_57, T.sl_57, T.st_57, T.un_57, T.zo_78, q0, q5, q6, q7, hlt, gm, gq, refC, j1, w1]
          exact ⟨j2, ⟨hU2 _, i + 1, b, a, hil, by rw [hta]; simpa using hT, rfl, rfl, rfl⟩, by omega⟩
        | true =>
          have hb := hon (hmem ho)
          simp only [RP.pk] at hb
          rw [ho] at hta j1
          by_cases c1 : x.num < s.best
          · have c1' : (x.num < s.best) = True := eq_true c1
            have w2 : IntKind.i64.wrap (x.at_ + waitT s) = x.at_ + waitT s := i64wrap (by omega) (by omega)
            cases b with
            | true =>
              obtain ⟨y, hy, hyb, ha⟩ := hT.2 rfl
              have hyx := hpa y (List.mem_of_mem_head? hy)
              have c2 : (x.at_ + waitT s < a) = False := eq_false (by omega)
              simp (config := { dsimp := false, maxSteps := 10000000 }) (disch := omega) only [go_sem, reduceIte, Nat.reduceEqDiff, reduceCtorEq, Nat.reduceAdd, Nat.reduceMul, Int.reduceToNat, Int.reduceLE, Int.reduceLT, Int.reduceEq, Int.reduceNe, Nat.reduceLeDiff, Int.reducePow, Nat.reducePow, Nat.reduceLT, Nat.reduceSub, Nat.reduceMod, Nat.reduceDiv, slot_neg, slot_pos, T.ag_3, T.ag_4, T.ag_57, T.ag_78, T.es_57, T.fo_59_0, T.fo_59_1, T.fo_59_10, T.fo_59_2, T.fo_59_3, T.fo_78_0, T.fo_78_2, T.fo_78_3, T.fo_78_4, T.gf_43, T.ib_3, T.ii_57, T.ip_3, T.s8_57, T.sl_57, T.st_57, T.un_57, T.zo_78, q0, q5, q6, q7, hlt, gm, gq, refC, j1, w1, c1']
              refine ⟨j2, ?_⟩
              refine ⟨.int .i64 (waitT s), rfl, rwaitV_ph _ m L s (RefV.ro (hV.upd (hU2 _))) hs, ?_⟩
              simp (config := { dsimp := false, maxSteps := 10000000 }) (disch := omega) only [go_sem, reduceIte, Nat.reduceEqDiff, reduceCtorEq, Nat.reduceAdd, Nat.reduceMul, Int.reduceToNat, Int.reduceLE, Int.reduceLT, Int.reduceEq, Int.reduceNe, Nat.reduceLeDiff, Int.reducePow, Nat.reducePow, Nat.reduceLT, Nat.reduceSub, Nat.reduceMod, Nat.reduceDiv, slot_neg, slot_pos, T.ag_3, T.ag_4, T.ag_57, T.ag_78, T.es_57, T.fo_59_0, T.fo_59_1, T.fo_59_10, T.fo_59_2, T.fo_59_3, T.fo_78_0, T.fo_78_2, T.fo_78_3, T.fo_78_4, T.gf_43, T.ib_3, T.ii_57, T.ip_3, T.s8_57, T.sl_57, T.st_57, T.un_57, T.zo_78, q0, q5, q6, q7, gm, gq, refC, w1, w2, c1', c2]
              exact ⟨⟨hU2 _, i + 1, true, a, hil, ⟨by simp, fun _ => ⟨y, by rw [hta, List.head?_append, hy]; rfl, hyb, ha⟩⟩, rfl, rfl, rfl⟩, by omega⟩
            | false =>
              obtain ⟨ha, hno⟩ := hT.1 rfl
              have hnil : waitsOf (L.take i) = [] := by
                cases hz : waitsOf (L.take i) with
                | nil => rfl
                | cons y t =>
                  have h1 := hno y (by rw [hz]; simp)
                  have h2 := hpa y (by rw [hz]; simp)
                  omega
              simp (config := { dsimp := false, maxSteps := 10000000 }) (disch := omega) only [go_sem, reduceIte, Nat.reduceEqDiff, reduceCtorEq, Nat.reduceAdd, Nat.reduceMul, Int.reduceToNat, Int.reduceLE, Int.reduceLT, Int.reduceEq, Int.reduceNe, Nat.reduceLeDiff, Int.reducePow, Nat.reducePow, Nat.reduceLT, Nat.reduceSub, Nat.reduceMod, Nat.reduceDiv, slot_neg, slot_pos, T.ag_3, T.ag_4, T.ag_57, T.ag_78, T.es_57, T.fo_59_0, T.fo_59_1, T.fo_59_10, T.fo_59_2, T.fo_59_3, T.fo_78_0, T.fo_78_2, T.fo_78_3, T.fo_78_4, T.gf_43, T.ib_3, T.ii_57, T.ip_3, T.s8_57, T.sl_57, T.st_57, T.un_57, T.zo_78, q0, q5, q6, q7, hlt, gm, gq, refC, j1, w1, c1']
              refine ⟨j2, ?_⟩
              refine ⟨.int .i64 (waitT s), rfl, rwaitV_ph _ m L s (RefV.ro (hV.upd (hU2 _))) hs, ?_⟩
              simp (config := { dsimp := false, maxSteps := 10000000 }) (disch := omega) only [go_sem, reduceIte, Nat.reduceEqDiff, reduceCtorEq, Nat.reduceAdd, Nat.reduceMul, Int.reduceToNat, Int.reduceLE, Int.reduceLT, Int.reduceEq, Int.reduceNe, Nat.reduceLeDiff, Int.reducePow, Nat.reducePow, Nat.reduceLT, Nat.reduceSub, Nat.reduceMod, Nat.reduceDiv, slot_neg, slot_pos, T.ag_3, T.ag_4, T.ag_57, T.ag_78, T.es_57, T.fo_59_0, T.fo_59_1, T.fo_59_10, T.fo_59_2, T.fo_59_3, T.fo_78_0, T.fo_78_2, T.fo_78_3, T.fo_78_4, T.gf_43, T.ib_3, T.ii_57, T.ip_3, T.s8_57, T.sl_57, T.st_57, T.un_57, T.zo_78, q0, q5, q6, q7, gm, gq, refC, w1, w2, c1']
              exact ⟨⟨hU2 _, i + 1, true, x.at_ + waitT s, hil, ⟨by simp, fun _ => ⟨x.pk, by rw [hta, hnil]; rfl, c1, rfl⟩⟩, rfl, rfl, rfl⟩, by omega⟩
          · have c1' : (x.num < s.best) = False := eq_false c1
            simp (config := { dsimp := false, maxSteps := 10000000 }) (disch := omega) only [go_sem, reduceIte, Nat.reduceEqDiff, reduceCtorEq, Nat.reduceAdd, Nat.reduceMul, Int.reduceToNat, Int.reduceLE, Int.reduceLT, Int.reduceEq, Int.reduceNe, Nat.reduceLeDiff, Int.reducePow, Nat.reducePow, Nat.reduceLT, Nat.reduceSub, Nat.reduceMod, Nat.reduceDiv, slot_neg, slot_pos, T.ag_3, T.ag_4, T.ag_57, T.ag_78, T.es_57, T.fo_59_0, T.fo_59_1, T.fo_59_10, T.fo_59_2, T.fo_59_3, T.fo_78_0, T.fo_78_2, T.fo_78_3, T.fo_78_4, T.gf_43, T.ib_3, T.ii_57, T.ip_3, T.s8_57, T.sl_57, T.st_57, T.un_57, T.zo_78, q0, q5, q6, q7, hlt, gm, gq, refC, j1, w1, c1']
            refine ⟨j2, ⟨hU2 _, i + 1, b, a, hil, ?_, rfl, rfl, rfl⟩, by omega⟩
            rw [hta]
            refine ⟨fun e => ⟨(hT.1 e).1, fun y hy => ?_⟩, fun e => ?_⟩
            · rcases List.mem_append.1 hy with h1 | h1
              · exact (hT.1 e).2 y h1
              · simp at h1; rw [h1]; exact c1
            · obtain ⟨y, hy, hyb, ha⟩ := hT.2 e
              exact ⟨y, by rw [List.head?_append, hy]; rfl, hyb, ha⟩
      · have hlt : ((i : Int) < (L.length : Int)) = False := eq_false (by omega)
        obtain rfl : i = L.length := by omega
        obtain ⟨A, st, o, h1, gm⟩ := hVH.form
        rw [List.take_length] at hT
        simp (config := { dsimp := false, maxSteps := 10000000 }) (disch := omega) only [go_sem, reduceIte, Nat.reduceEqDiff, reduceCtorEq, Nat.reduceAdd, Nat.reduceMul, Int.reduceToNat, Int.reduceLE, Int.reduceLT, Int.reduceEq, Int.reduceNe, Nat.reduceLeDiff, Int.reducePow, Nat.reducePow, Nat.reduceLT, Nat.reduceSub, Nat.reduceMod, Nat.reduceDiv, slot_neg, slot_pos, T.ag_3, T.ag_4, T.ag_57, T.ag_78, T.es_57, T.fo_59_0, T.fo_59_1, T.fo_59_10, T.fo_59_2, T.fo_59_3, T.fo_78_0, T.fo_78_2, T.fo_78_3, T.fo_78_4, T.gf_43, T.ib_3, T.ii_57, T.ip_3, T.s8_57, T.sl_57, T.st_57, T.un_57, T.zo_78, q0, q5, q6, q7, gm, refC, hlt]
        exact ⟨hU, b, a, hT, rfl, rfl⟩
  · rintro r H ⟨hU, b, a, hT, q0, q5, q6⟩
    have hVH := hV.upd hU
    cases b with
    | true =>
      obtain ⟨y, hy, hyb, ha⟩ := hT.2 rfl
      have e : timerS s = (a, true, true) := by
        unfold timerS; rw [hw]
        cases hW : waitsOf L with
        | nil => rw [hW] at hy; cases hy
        | cons z t => rw [hW] at hy; cases hy; simp only; rw [if_pos hyb, ha]
      rw [e]
      (refine CodeH.seq' (CodeH.of_vc [] hm (by kernel_rfl) ?_); simp (config := { dsimp := false, maxSteps := 10000000 }) (disch := omega) only [go_sem, reduceIte, Nat.reduceEqDiff, reduceCtorEq, Nat.reduceAdd, Nat.reduceMul, Int.reduceToNat, Int.reduceLE, Int.reduceLT, Int.reduceEq, Int.reduceNe, Nat.reduceLeDiff, Int.reducePow, Nat.reducePow, Nat.reduceLT, Nat.reduceSub, Nat.reduceMod, Nat.reduceDiv, slot_neg, slot_pos, T.ag_3, T.ag_4, T.ag_57, T.ag_78, T.es_57, T.fo_59_0, T.fo_59_1, T.fo_59_10, T.fo_59_2, T.fo_59_3, T.fo_78_0, T.fo_78_2, T.fo_78_3, T.fo_78_4, T.gf_43, T.ib_3, T.ii_57, T.ip_3, T.s8_57, T.sl_57, T.st_57, T.un_57, T.zo_78, init_a, q0, q5, q6])
      simp only [tup3]
    | false =>
      have hno := (hT.1 rfl).2
      have ha := (hT.1 rfl).1
      have e : timerS s = match lastAsk (waitsOf L) with | some y => (y.at_ + ptoT s, true, false) | none => (0, false, false) := by
        unfold timerS; rw [hw]
        cases hW : waitsOf L with
        | nil => rfl
        | cons z t => simp only; rw [if_neg (hno z (by rw [hW]; simp))]; cases lastAsk (z :: t) <;> rfl
      (refine CodeH.seq' (CodeH.of_vc [] hm (by kernel_rfl) ?_); simp (config := { dsimp := false, maxSteps := 10000000 }) (disch := omega) only [go_sem, reduceIte, Nat.reduceEqDiff, reduceCtorEq, Nat.reduceAdd, Nat.reduceMul, Int.reduceToNat, Int.reduceLE, Int.reduceLT, Int.reduceEq, Int.reduceNe, Nat.reduceLeDiff, Int.reducePow, Nat.reducePow, Nat.reduceLT, Nat.reduceSub, Nat.reduceMod, Nat.reduceDiv, slot_neg, slot_pos, T.ag_3, T.ag_4, T.ag_57, T.ag_78, T.es_57, T.fo_59_0, T.fo_59_1, T.fo_59_10, T.fo_59_2, T.fo_59_3, T.fo_78_0, T.fo_78_2, T.fo_78_3, T.fo_78_4, T.gf_43, T.ib_3, T.ii_57, T.ip_3, T.s8_57, T.sl_57, T.st_57, T.un_57, T.zo_78, init_a, q0, q5, q6])
      refine CodeH.seq (fun r H' => H = H' ∧ r 0 = .pointer (some ⟨m, 0, none⟩) ∧ r 5 = .int .i64 (match lastAsk (waitsOf L) with | some y => y.at_ | none => 0) ∧ r 6 = .bool (lastAsk (waitsOf L)).isSome) ?_ ?_
      · (refine CodeH.of_vc [] hm (by kernel_rfl) ?_; simp (config := { dsimp := false, maxSteps := 10000000 }) (disch := omega) only [go_sem, reduceIte, Nat.reduceEqDiff, reduceCtorEq, Nat.reduceAdd, Nat.reduceMul, Int.reduceToNat, Int.reduceLE, Int.reduceLT, Int.reduceEq, Int.reduceNe, Nat.reduceLeDiff, Int.reducePow, Nat.reducePow, Nat.reduceLT, Nat.reduceSub, Nat.reduceMod, Nat.reduceDiv, slot_neg, slot_pos, T.ag_3, T.ag_4, T.ag_57, T.ag_78, T.es_57, T.fo_59_0, T.fo_59_1, T.fo_59_10, T.fo_59_2, T.fo_59_3, T.fo_78_0, T.fo_78_2, T.fo_78_3, T.fo_78_4, T.gf_43, T.ib_3, T.ii_57, T.ip_3, T.s8_57, T.sl_57, T.st_57, T.un_57, T.zo_78, init_a])
        refine loop_intro [] hm (fun r H' => H = H' ∧ ∃ i : Nat, i ≤ L.length ∧ r 0 = .pointer (some ⟨m, 0, none⟩) ∧ r 5 = .int .i64 (match lastAsk (waitsOf (L.take i)) with | some y => y.at_ | none => 0) ∧ r 6 = .bool (lastAsk (waitsOf (L.take i))).isSome ∧ r 9 = .int .i64 i) (fun r _ => match r 9 with | .int _ i => L.length - i.toNat | _ => 0) ?_ ?_
        · exact ⟨rfl, 0, by omega, by simp [upd, q0], by simp [upd, q5, ha, waitsOf, lastAsk], by simp [upd, q6, waitsOf, lastAsk], by simp [upd]⟩
        · rintro r H' ⟨hH, i, hi, q0, q5, q6, q9⟩
          subst hH
          by_cases hil : i < L.length
          · have hlt : ((i : Int) < (L.length : Int)) = True := eq_true (by omega)
            have hx : L[i]? = some L[i] := List.getElem?_eq_getElem hil
            obtain ⟨o, q, off, vs, ob, hmn, hqn, gm, gq, hRV, j1, j2⟩ := hVH.at hx
            have y2 : vs[off + i * 5 + 2]? = some (.bool L[i].asks) := hRV.cell hx (j := 2) (by decide)
            have y3 : vs[off + i * 5 + 3]? = some (.int .i64 L[i].at_) := hRV.cell hx (j := 3) (by decide)
            have y4 : vs[off + i * 5 + 4]? = some (.bool L[i].on) := hRV.cell hx (j := 4) (by decide)
            have hta := waits_take hx
            generalize L[i] = x at *
            have w1 : IntKind.i64.wrap ((i : Int) + 1) = ((i + 1 : Nat) : Int) := by rw [i64wrap] <;> omega
            cases ho : x.on with
            | false =>
              rw [ho] at hta y4
              have e2 : waitsOf (L.take (i + 1)) = waitsOf (L.take i) := by rw [hta]; simp
              simp (config := { dsimp := false, maxSteps := 10000000 }) (disch := omega) only [go_sem, reduceIte, Nat.reduceEqDiff, reduceCtorEq, Nat.reduceAdd, Nat.reduceMul, Int.reduceToNat, Int.reduceLE, Int.reduceLT, Int.reduceEq, Int.reduceNe, Nat.reduceLeDiff, Int.reducePow, Nat.reducePow, Nat.reduceLT, Nat.reduceSub, Nat.reduceMod, Nat.reduceDiv, slot_neg, slot_pos, T.ag_3, T.ag_4, T.ag_57, T.ag_78, T.es_57, T.fo_59_0, T.fo_59_1, T.fo_59_10, T.fo_59_2, T.fo_59_3, T.fo_78_0, T.fo_78_2, T.fo_78_3, T.fo_78_4, T.gf_43, T.ib_3, T.ii_57, T.ip_3, T.s8_57, T.sl_57, T.st_57, T.un_57, T.zo_78, q0, q5, q6, q9, hlt, gm, gq, refC, y2, y3, y4, w1]
              exact ⟨⟨i + 1, hil, by rw [e2], by rw [e2], rfl⟩, by omega⟩
            | true =>
              rw [ho] at hta y4
              have e2 : lastAsk (waitsOf (L.take (i + 1))) = if x.asks then some x.pk else lastAsk (waitsOf (L.take i)) := by rw [hta]; simp [lastAsk_snoc, RP.pk]
              cases hk : x.asks with
              | false =>
                rw [hk] at e2 y2
                simp (config := { dsimp := false, maxSteps := 10000000 }) (disch := omega) only [go_sem, reduceIte, Nat.reduceEqDiff, reduceCtorEq, Nat.reduceAdd, Nat.reduceMul, Int.reduceToNat, Int.reduceLE, Int.reduceLT, Int.reduceEq, Int.reduceNe, Nat.reduceLeDiff, Int.reducePow, Nat.reducePow, Nat.reduceLT, Nat.reduceSub, Nat.reduceMod, Nat.reduceDiv, slot_neg, slot_pos, T.ag_3, T.ag_4, T.ag_57, T.ag_78, T.es_57, T.fo_59_0, T.fo_59_1, T.fo_59_10, T.fo_59_2, T.fo_59_3, T.fo_78_0, T.fo_78_2, T.fo_78_3, T.fo_78_4, T.gf_43, T.ib_3, T.ii_57, T.ip_3, T.s8_57, T.sl_57, T.st_57, T.un_57, T.zo_78, q0, q5, q6, q9, hlt, gm, gq, refC, y2, y3, y4, w1]
                exact ⟨⟨i + 1, hil, by rw [e2]; rfl, by rw [e2]; rfl, rfl⟩, by omega⟩
              | true =>
                rw [hk] at e2 y2
                simp (config := { dsimp := false, maxSteps := 10000000 }) (disch := omega) only [go_sem, reduceIte, Nat.reduceEqDiff, reduceCtorEq, Nat.reduceAdd, Nat.reduceMul, Int.reduceToNat, Int.reduceLE, Int.reduceLT, Int.reduceEq, Int.reduceNe, Nat.reduceLeDiff, Int.reducePow, Nat.reducePow, Nat.reduceLT, Nat.reduceSub, Nat.reduceMod, Nat.reduceDiv, slot_neg, slot_pos, T.ag_3, T.ag_4, T.ag_57, T.ag_78, T.es_57, T.fo_59_0, T.fo_59_1, T.fo_59_10, T.fo_59_2, T.fo_59_3, T.fo_78_0, T.fo_78_2, T.fo_78_3, T.fo_78_4, T.gf_43, T.ib_3, T.ii_57, T.ip_3, T.s8_57, T.sl_57, T.st_57, T.un_57, T.zo_78, q0, q5, q6, q9, hlt, gm, gq, refC, y2, y3, y4, w1]
                exact ⟨⟨i + 1, hil, by rw [e2]; rfl, by rw [e2]; rfl, rfl⟩, by omega⟩
          · have hlt : ((i : Int) < (L.length : Int)) = False := eq_false (by omega)
            obtain rfl : i = L.length := by omega
            obtain ⟨A, st, o, h1, gm⟩ := hVH.form
            rw [List.take_length] at q5 q6
            simp (config := { dsimp := false, maxSteps := 10000000 }) (disch := omega) only [go_sem, reduceIte, Nat.reduceEqDiff, reduceCtorEq, Nat.reduceAdd, Nat.reduceMul, Int.reduceToNat, Int.reduceLE, Int.reduceLT, Int.reduceEq, Int.reduceNe, Nat.reduceLeDiff, Int.reducePow, Nat.reducePow, Nat.reduceLT, Nat.reduceSub, Nat.reduceMod, Nat.reduceDiv, slot_neg, slot_pos, T.ag_3, T.ag_4, T.ag_57, T.ag_78, T.es_57, T.fo_59_0, T.fo_59_1, T.fo_59_10, T.fo_59_2, T.fo_59_3, T.fo_78_0, T.fo_78_2, T.fo_78_3, T.fo_78_4, T.gf_43, T.ib_3, T.ii_57, T.ip_3, T.s8_57, T.sl_57, T.st_57, T.un_57, T.zo_78, q0, q5, q6, q9, gm, refC, hlt]
      · rintro r H' ⟨hH, q0, q5, q6⟩
        subst hH
        rw [e]
        obtain ⟨A, st, o, h1, gm⟩ := hVH.form
        cases hL : lastAsk (waitsOf L) with
        | none =>
          have q6' : r 6 = .bool false := by rw [q6, hL]; rfl
          (refine CodeH.seq' (CodeH.of_vc [] hm (by kernel_rfl) ?_); simp (config := { dsimp := false, maxSteps := 10000000 }) (disch := omega) only [go_sem, reduceIte, Nat.reduceEqDiff, reduceCtorEq, Nat.reduceAdd, Nat.reduceMul, Int.reduceToNat, Int.reduceLE, Int.reduceLT, Int.reduceEq, Int.reduceNe, Nat.reduceLeDiff, Int.reducePow, Nat.reducePow, Nat.reduceLT, Nat.reduceSub, Nat.reduceMod, Nat.reduceDiv, slot_neg, slot_pos, T.ag_3, T.ag_4, T.ag_57, T.ag_78, T.es_57, T.fo_59_0, T.fo_59_1, T.fo_59_10, T.fo_59_2, T.fo_59_3, T.fo_78_0, T.fo_78_2, T.fo_78_3, T.fo_78_4, T.gf_43, T.ib_3, T.ii_57, T.ip_3, T.s8_57, T.sl_57, T.st_57, T.un_57, T.zo_78, init_a, q0, q6'])
          all_goals rfl
        | some y =>
          rw [hL] at q5 q6
          have hym : y ∈ s.waits := by rw [hw]; have := List.mem_of_find?_eq_some hL; simpa using this
          have hyb := hs.pk y hym
          obtain ⟨w1, w2, w3, w4, w5, w6⟩ := pto_w b1 b2 b3
          have w7 : IntKind.i64.wrap (y.at_ + ptoT s) = y.at_ + ptoT s := i64wrap (by unfold ptoT; omega) (by unfold ptoT; omega)
          have ht : (0 ≤ s.tries) = True := eq_true b3.1
          (refine CodeH.seq' (CodeH.of_vc [] hm (by kernel_rfl) ?_); simp (config := { dsimp := false, maxSteps := 10000000 }) (disch := omega) only [go_sem, reduceIte, Nat.reduceEqDiff, reduceCtorEq, Nat.reduceAdd, Nat.reduceMul, Int.reduceToNat, Int.reduceLE, Int.reduceLT, Int.reduceEq, Int.reduceNe, Nat.reduceLeDiff, Int.reducePow, Nat.reducePow, Nat.reduceLT, Nat.reduceSub, Nat.reduceMod, Nat.reduceDiv, slot_neg, slot_pos, T.ag_3, T.ag_4, T.ag_57, T.ag_78, T.es_57, T.fo_59_0, T.fo_59_1, T.fo_59_10, T.fo_59_2, T.fo_59_3, T.fo_78_0, T.fo_78_2, T.fo_78_3, T.fo_78_4, T.gf_43, T.ib_3, T.ii_57, T.ip_3, T.s8_57, T.sl_57, T.st_57, T.un_57, T.zo_78, init_a, q0, q5, q6])
          (refine CodeH.of_vc [] hm (by kernel_rfl) ?_; simp (config := { dsimp := false, maxSteps := 10000000 }) (disch := omega) only [go_sem, reduceIte, Nat.reduceEqDiff, reduceCtorEq, Nat.reduceAdd, Nat.reduceMul, Int.reduceToNat, Int.reduceLE, Int.reduceLT, Int.reduceEq, Int.reduceNe, Nat.reduceLeDiff, Int.reducePow, Nat.reducePow, Nat.reduceLT, Nat.reduceSub, Nat.reduceMod, Nat.reduceDiv, slot_neg, slot_pos, T.ag_3, T.ag_4, T.ag_57, T.ag_78, T.es_57, T.fo_59_0, T.fo_59_1, T.fo_59_10, T.fo_59_2, T.fo_59_3, T.fo_78_0, T.fo_78_2, T.fo_78_3, T.fo_78_4, T.gf_43, T.ib_3, T.ii_57, T.ip_3, T.s8_57, T.sl_57, T.st_57, T.un_57, T.zo_78, init_a, q0, q5, q6, gm, refC, w1, w2, w3, w4, maxl, ht])
          rw [tup3, ← w7]; rfl
end Ph
