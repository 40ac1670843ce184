import Derived.Test.YtliblomkhapibaaL13
set_option maxRecDepth 100000
set_option maxHeartbeats 1000000
set_option linter.unusedSimpArgs false
set_option linter.unusedVariables false
namespace Ph
open Go Go.Proofs
attribute [local irreducible] Value.cells
attribute [local go_sem ↓] y_move y_assign y_pick y_nil y_bin y_un y_fa y_field y_ext y_ia y_ix y_slice y_build y_mf y_load y_len y_min y_max y_conv y_bs y_mk y_alloc y_box y_store y_clear y_app y_callf y_callt s_move s_assign s_pick s_nil s_bin s_un s_fa s_field s_ext s_ia s_ix s_slice s_conv s_build s_bs s_mf s_alloc s_box s_load s_store s_len s_clear s_min s_max s_app s_call q_call q_move q_assign q_pick q_nil q_bin q_un q_fa q_field q_ext q_ia q_ix q_slice q_conv q_build q_mf q_load q_len q_min q_max l_nil l_move l_assign l_pick l_nilc l_bin l_un l_fa l_field l_ext l_ia l_ix l_slice l_conv l_build l_mf l_load l_len l_min l_max l_call put_eq putN_eq o_nil o_plain o_gate v_nil v_plain v_gate vc_skip vc_region vc_seq vc_cond vc_block vc_loop vc_rf vc_exit vc_ret blk_normal blk_ret blk_exit on_normal on_ret on_exit vc_drawn draw_q s_mk l_bs l_mk l_alloc l_box l_store l_app l_clear pl_done pl_takeS pl_take pl_alt pl_stop one_plain one_gate
attribute [local go_sem] clear_nil clear_sl onAgg_a onTuple_t onFn_f onFn_y onFunc_f c_int c_nil c_sl c_str sl_sl sl_nil sl_str ix_str ix_agg n_nil n_sl n_str app_eq k_nil k_sl len_sl len_str upd_some upd_none ev_tmp ev_const ev_func rd_some gdst_eq otmp_t otmp_c get_put get_alloc next_put next_alloc get_app next_app init_a resV1 resV2 onPtr_ptr onBool_b onInt_i onSlice_s onSome_s onCells_c lett_eq gate_tt gate_tf gate_ff gate_ft gate_dt gate_df also_eq bin un minmax io_none io_some bo_none bo_some partOf List.getElem?_cons_zero List.getElem?_cons_succ List.getElem?_toArray Option.map_some Option.map_none Option.bind_some ne_eq not_true_eq_false not_false_eq_true false_implies true_implies and_true true_and and_self Bool.false_eq_true Nat.zero_add Nat.add_zero List.size_toArray List.length_cons List.length_nil List.map_toArray List.map_cons List.map_nil Array.getD_eq_getD_getElem? Option.getD_some Bool.not_true Bool.not_false Bool.not_eq_true Option.isNone_some Option.isNone_none List.append_toArray List.append_nil List.nil_append List.cons_append decide_true decide_false in_nil in_cons Bool.and_false Bool.and_true Bool.or_false Bool.true_or Bool.false_or get_mask next_mask get_unmask next_unmask ac_move ac_assign ac_pick ac_nil ac_bin ac_un ac_fa ac_field ac_ext ac_ia ac_ix ac_slice ac_build ac_mf ac_call ac_load ac_conv accP_p accS_s accS_n accS_i accS_t fixed_ro fixed_lock fixed_own get_ro next_ro lock_live' lock_cells List.mem_cons List.not_mem_nil or_false false_or or_true true_or and_false false_and IntKind.bits Int.natCast_zero Int.natCast_one size_str data_str list_str mk_str ext_str app_str bytes_str w_byte w_byteu Int.toNat_natCast Int.toNat_zero Int.toNat_one Nat.sub_zero ge_iff_le gt_iff_lt Nat.le_refl Int.le_refl List.drop_zero Int.ofNat_eq_natCast Int.natCast_nonneg Int.sub_zero oc_int oc_bool oc_str oc_ptr oc_sl oc_map oc_func List.set_cons_zero List.set_cons_succ Nat.mul_one List.all_cons List.all_nil Bool.and_self res_nil res_tmp res_cell tup_one tup_two tup_nil fill_nil repl_zero cells_agg List.append_eq List.toList_toArray Nat.zero_mul Nat.one_mul repl_one repl_two onSome_build fill_cons onSome_lit splice_eq cells_int cells_bool cells_str cells_ptr cells_sl cells_map cells_func loadK_n loadK_s load_k storeK_n storeK_s store_k all_arr List.take_zero List.take_succ_cons List.drop_succ_cons List.take_nil List.drop_nil lk_own lk_ro lk_lock lk_lk fixed_lk gate_nt gate_nf gate3_b gate3_u undef Bool.true_and Bool.false_and nx_l nx_r nx_lt put_put resV0
/-! What the laws ask of a state, as one thing. -/
def newS : St := ⟨[], -1, -1, 100, 50, 0, 0, false, 12000, 1099511627776, -1, 0, 0, 0⟩
def LV (h : Heap) (p : Nat) (s : St) (H : Heap) : Prop := ∃ D, StR H p D s ∧ (∀ d ∈ D, h.next ≤ d) ∧ h.next ≤ p ∧ Upd h H []
theorem LV.view {h H : Heap} {p : Nat} {s : St} (hL : LV h p s H) : StV H p s := by
  obtain ⟨D, hS, _⟩ := hL
  exact hS.view
theorem LV.upd {h H H' : Heap} {p : Nat} {s : St} (hL : LV h p s H) (hu : Upd H H' []) : LV h p s H' := by
  obtain ⟨D, hS, hD, hp, hU⟩ := hL
  exact ⟨D, hS.upd hu (by simp) (by simp), hD, hp, hU.trans hu (by simp)⟩
theorem LV.is {h H : Heap} {p : Nat} {s : St} (hL : LV h p s H) : Upd h H [] := by
  obtain ⟨D, hS, hD, hp, hU⟩ := hL
  exact hU
theorem LV.of {h H H' : Heap} {p : Nat} {D D' : List Nat} {s' : St} (hS' : StR H' p D' s') (hD' : ∀ d ∈ D', d ∈ D ∨ H.next ≤ d) (hU' : Upd H H' (p :: D)) (hD : ∀ d ∈ D, h.next ≤ d) (hp : h.next ≤ p) (hU : Upd h H []) : LV h p s' H' := by
  refine ⟨D', hS', fun d hd => ?_, hp, hU.trans hU' fun d hd => ?_⟩
  · rcases hD' d hd with h1 | h1
    · exact hD d h1
    · have := hU.1; omega
  · rcases List.mem_cons.1 hd with h1 | h1
    · exact .inr (by omega)
    · exact .inr (hD d h1)
theorem New_lv (h H : Heap) (hU : Upd h H []) : @CallsH Try.prog 9 #[] H ⟨fun u H' => ∃ p, u = .pointer (some ⟨p, 0, none⟩) ∧ LV h p newS H'⟩ := by
  refine (New_ph H).mono fun u H' ⟨e1, e2⟩ => ⟨H.next, e1, [], ⟨?_, by simp, .slice none 0 0, ?_, OwnRow.nil _⟩, by simp, hU.1, ?_⟩
  · rw [e2]; exact Nat.lt_succ_self _
  · rw [e2, get_alloc, if_pos rfl]; rfl
  · rw [e2]; exact hU.allocs
theorem newS_ok : Ok newS := ⟨by decide, by simp [newS], by decide, by decide, by decide, by decide, by decide, by decide, by decide, by decide, by decide, by decide, by decide, by decide⟩
theorem Sent_lv {h H : Heap} {p : Nat} {s : St} (num size at_ : Int) (asks : Bool) (hL : LV h p s H) (hs : Ok s) (hlen : s.waits.length < 100000) (hok : sentOk s num size at_ = true) :
    @CallsH Try.prog 10 #[.pointer (some ⟨p, 0, none⟩), .int .i64 num, .int .i64 size, .bool asks, .int .i64 at_] H ⟨fun u H' => u = .int .i64 0 ∧ LV h p (sentS s num size asks at_) H'⟩ := by
  obtain ⟨D, hS, hD, hp, hU⟩ := hL
  refine (Sent_ph H p D s num size at_ asks hS hs hlen).mono fun u H' ⟨e1, ⟨D', a1, a2⟩, a3⟩ => ?_
  rw [hok] at e1 a1
  exact ⟨e1, LV.of a1 a2 a3 hD hp hU⟩
theorem Ok.sent {s : St} (hs : Ok s) {num size at_ : Int} {asks : Bool} (hlen : s.waits.length < 100000) (hok : sentOk s num size at_ = true) : Ok (sentS s num size asks at_) := by
  simp only [sentOk, timeOk, Bool.and_eq_true, decide_eq_true_eq] at hok
  obtain ⟨⟨h1, h2⟩, h3, h4, h5, h6⟩ := hok
  have b1 := hs.now
  have b2 := hs.best
  have b3 := hs.since
  have b4 := hs.top
  refine ⟨by simp [sentS]; omega, fun x hx => ?_, by simp only [sentS]; omega, by simp only [sentS]; omega, by simp only [sentS]; omega, hs.smooth, hs.vary, hs.least, hs.last, hs.window, hs.mark, by simp only [sentS]; omega, ?_, hs.tries⟩
  · simp only [sentS, List.mem_append, List.mem_singleton] at hx ⊢
    rcases hx with hx | rfl
    · have := hs.pk x hx; omega
    · simp only; omega
  · simp only [sentS]; rw [asum_snoc, hs.flight]
/-- rows of numbers that a call gave -/
def NumR (H : Heap) (v : Value) (l : List Int) : Prop := RowIn intE H v l ∧ ∀ A n st, v = .slice (some A) n st → A.block < H.next
theorem OwnRow.num {H : Heap} {v : Value} {D : List Nat} {l : List Int} (hO : OwnRow intE H v D l) : NumR H v l := by
  refine ⟨hO.row, fun A n st e => ?_⟩
  rcases hO with ⟨e2, _⟩ | ⟨q, off, vs, _, hq, e2, _⟩
  · rw [e2] at e; cases e
  · rw [e2] at e; cases e; simp only; omega
theorem Acked_lv {h H0 H : Heap} {p : Nat} {s : St} {v : Value} {l : List Sp} (delay at_ : Int) (hL : LV h p s H0) (hu : Upd H0 H []) (hs : Ok s) (hr : RowIn spE H v l) (hlt : ∀ A n st, v = .slice (some A) n st → H0.next ≤ A.block ∧ A.block < H.next) (hl : l.length < 9223372036854775807) :
    @CallsH Try.prog 11 #[.pointer (some ⟨p, 0, none⟩), v, .int .i64 delay, .int .i64 at_] H ⟨fun u H' => ∃ v1 v2, u = .tuple #[v1, v2, .int .i64 (ackS s l delay at_).2.2.2] ∧ NumR H' v1 (ackS s l delay at_).2.1 ∧ NumR H' v2 (ackS s l delay at_).2.2.1 ∧ LV h p (ackS s l delay at_).1 H'⟩ := by
  obtain ⟨D, hS, hD, hp, hU⟩ := hL
  have hlD := hS.lt
  refine (Acked_ph H p D s v l delay at_ (hS.upd hu (by simp) (by simp)) hs hr (fun A n st e => ?_) hl).mono fun u H' ⟨v1, D2, v2, D3, e1, e2, e3, e4, e5, ⟨D', a1, a2, _, _⟩, a3⟩ => ?_
  · have := hlt A n st e
    have hpn := hS.1
    exact ⟨this.2, by omega, fun hd => by have := hlD _ hd; omega⟩
  · exact ⟨v1, v2, e1, e2.num, e4.num, LV.of a1 a2 a3 hD hp (hU.trans hu (by simp))⟩
theorem Fire_lv {h H : Heap} {p : Nat} {s : St} (at_ : Int) (hL : LV h p s H) (hs : Ok s) :
    @CallsH Try.prog 13 #[.pointer (some ⟨p, 0, none⟩), .int .i64 at_] H ⟨fun u H' => ∃ v, u = .tuple #[v, .bool (fireS s at_).2.2.1, .int .i64 (fireS s at_).2.2.2] ∧ NumR H' v (fireS s at_).2.1 ∧ LV h p (fireS s at_).1 H'⟩ := by
  obtain ⟨D, hS, hD, hp, hU⟩ := hL
  refine (Fire_ph H p D s at_ hS hs).mono fun u H' ⟨v, D2, e1, e2, e3, ⟨D', a1, a2, _⟩, a3⟩ => ?_
  exact ⟨v, e1, e2.num, LV.of a1 a2 a3 hD hp hU⟩
theorem Ok.ackS {s : St} (hs : Ok s) (l : List Sp) (delay at_ : Int) : Ok (ackS s l delay at_).1 := by
  unfold Ph.ackS
  split
  · rename_i hc
    have ht : s.now ≤ at_ ∧ at_ ≤ 1099511627776 := by simpa [timeOk] using hc.1
    split
    · have h2 := hs.ack1 l at_ ht.1 ht.2
      have hc2 : ∀ x ∈ ackL s l, 1 ≤ x.size ∧ x.size ≤ 65535 ∧ 0 ≤ x.at_ ∧ x.at_ ≤ s.now ∧ -1 ≤ x.num ∧ x.num ≤ s.top := fun x hx => hs.pk x (List.mem_filter.1 hx).1
      have h3 : Ok (ack3 (Ph.ack1 s l at_) (ackL s l) delay at_) ∧ (ack3 (Ph.ack1 s l at_) (ackL s l) delay at_).now = at_ := by
        unfold ack3
        split
        · exact ⟨h2, rfl⟩
        · rename_i x hx
          have hpx := hc2 x (List.mem_of_getLast? hx)
          have h7 := (h2.ackd (ackL s l) (x := x) (delay := delay) (at_ := at_) ⟨hpx.2.2.1, by omega, by omega, hpx.2.2.2.2.2⟩ hc.2).grows (c := ackL s l) fun y hy => by have := hc2 y hy; omega
          refine ⟨⟨h7.len, h7.pk, h7.top, h7.best, h7.now, h7.smooth, h7.vary, h7.least, h7.last, h7.window, h7.mark, h7.since, h7.flight, by simp⟩, ?_⟩
          have e : ∀ (c : List Pk) (t : St), (c.foldl growS t).now = t.now := fun c => by
            induction c with
            | nil => intro t; rfl
            | cons y c ih =>
              intro t
              rw [List.foldl_cons, ih]
              unfold growS
              split
              · rfl
              · split <;> rfl
          show (List.foldl growS (Ph.ack2 (Ph.ack1 s l at_) (ackL s l) delay at_ x) (ackL s l)).now = at_
          rw [e]
          unfold Ph.ack2
          split
          · split
            · unfold sampleS; split <;> rfl
            · rfl
          · rfl
      have h4 := h3.1.give
      rw [h3.2] at h4
      exact h4
    · exact hs
  · exact hs
theorem Ok.fireS {s : St} (hs : Ok s) (at_ : Int) : Ok (fireS s at_).1 := by
  unfold Ph.fireS
  split
  · rename_i ht
    have ht : s.now ≤ at_ ∧ at_ ≤ 1099511627776 := by simpa [timeOk] using ht
    have h1 := hs.at ht.1 ht.2
    simp only
    split
    · split
      · exact h1.give
      · have b := hs.tries
        exact ⟨h1.len, h1.pk, h1.top, h1.best, h1.now, h1.smooth, h1.vary, h1.least, h1.last, h1.window, h1.mark, h1.since, h1.flight, by simp only; omega⟩
    · exact h1
  · exact hs
theorem take_one {vs : List Value} {n : Nat} {x : Value} (h : List.take 1 (List.drop n vs) = [x]) : vs[n]? = some x := by
  have h1 : (List.take 1 (List.drop n vs))[0]? = some x := by rw [h]; rfl
  rw [List.getElem?_take_of_lt (by omega), List.getElem?_drop] at h1
  exact h1
theorem Ints_ph (h : Heap) (v w : Value) (a b : List Int) (ha : RowIn intE h v a) (hb : RowIn intE h w b) (hl : a.length < 1000000000) :
    @CallsH Try.prog 23 #[v, w] h ⟨fun u H => u = .bool (decide (a = b))⟩ := by
  obtain ⟨A, st, hv⟩ := ha.form
  obtain ⟨B, st2, hw⟩ := hb.form
  by_cases hlen : a.length = b.length
  · have hlen' : ((a.length : Int) = (b.length : Int)) = True := eq_true (by omega)
    (refine calls_of_vc [] hm Try.func23 rfl (ts := [4]) rfl (by kernel_rfl) (by simp) ?_; simp (config := { dsimp := false, maxSteps := 10000000 }) (disch := omega) only [go_sem, reduceIte, Nat.reduceEqDiff, reduceCtorEq, Nat.reduceAdd, Nat.reduceMul, Int.reduceToNat, Int.reduceLE, Int.reduceLT, Int.reduceEq, Int.reduceNe, Nat.reduceLeDiff, Int.reducePow, Nat.reducePow, Nat.reduceLT, Nat.reduceSub, Nat.reduceMod, Nat.reduceDiv, slot_neg, slot_pos, T.ag_3, T.es_22, T.ib_3, T.ii_22, T.ip_3, T.s8_22, T.sl_22, T.st_22, T.un_22, init_a, hv, hw, hlen'])
    rw [← hv, ← hw]
    refine loop_intro [] hm (fun r H => H = h ∧ ∃ i : Nat, i ≤ a.length ∧ a.take i = b.take i ∧ r 0 = v ∧ r 1 = w ∧ r 5 = .int .i64 i) (fun r _ => match r 5 with | .int _ i => a.length - i.toNat | _ => 0) ?_ ?_
    · exact ⟨rfl, 0, by omega, rfl, by simp [upd, initR], by simp [upd, initR], by simp [upd]⟩
    · rintro r H ⟨hH, i, hi, heq, q0, q1, q5⟩
      subst hH
      by_cases hil : i < a.length
      · have hlt' : ((i : Int) < (a.length : Int)) = True := eq_true (by omega)
        have hlt2 : ((i : Int) < (b.length : Int)) = True := eq_true (by omega)
        have hx : a[i]? = some a[i] := List.getElem?_eq_getElem hil
        have hy : b[i]? = some b[i] := List.getElem?_eq_getElem (by omega)
        rcases id ha with ⟨_, hnil⟩ | ⟨qa, offa, vs, oa, hv', hqa, hRa⟩
        · rw [hnil] at hil; simp at hil
        rcases id hb with ⟨_, hnil⟩ | ⟨qb, offb, ws, ob, hw', hqb, hRb⟩
        · rw [hnil] at hlen; simp at hlen; rw [hlen] at hil; simp at hil
        have ha1 := hRa.at hx
        have hb1 := hRb.at hy
        have j1 : vs[offa + i]? = some (.int .i64 a[i]) := take_one (by have := ha1.1; simpa [intE] using this)
        have j3 : ws[offb + i]? = some (.int .i64 b[i]) := take_one (by have := hb1.1; simpa [intE] using this)
        have hta := take_next hx
        have htb := take_next hy
        generalize a[i] = x at *
        generalize b[i] = y at *
        have hK : intE.k = 1 := rfl
        have w1 : IntKind.i64.wrap ((i : Int) + 1) = ((i + 1 : Nat) : Int) := by rw [i64wrap] <;> omega
        by_cases hxy : x = y
        · simp (config := { dsimp := false, maxSteps := 10000000 }) (disch := omega) only [go_sem, reduceIte, Nat.reduceEqDiff, reduceCtorEq, Nat.reduceAdd, Nat.reduceMul, Int.reduceToNat, Int.reduceLE, Int.reduceLT, Int.reduceEq, Int.reduceNe, Nat.reduceLeDiff, Int.reducePow, Nat.reducePow, Nat.reduceLT, Nat.reduceSub, Nat.reduceMod, Nat.reduceDiv, slot_neg, slot_pos, T.ag_3, T.es_22, T.ib_3, T.ii_22, T.ip_3, T.s8_22, T.sl_22, T.st_22, T.un_22, q0, q1, q5, hv', hw', hlt', hlt2, hqa, hqb, j1, j3, hK, w1, hxy]
          exact ⟨⟨i + 1, hil, by rw [hta, htb, heq, hxy], rfl⟩, by omega⟩
        · simp (config := { dsimp := false, maxSteps := 10000000 }) (disch := omega) only [go_sem, reduceIte, Nat.reduceEqDiff, reduceCtorEq, Nat.reduceAdd, Nat.reduceMul, Int.reduceToNat, Int.reduceLE, Int.reduceLT, Int.reduceEq, Int.reduceNe, Nat.reduceLeDiff, Int.reducePow, Nat.reducePow, Nat.reduceLT, Nat.reduceSub, Nat.reduceMod, Nat.reduceDiv, slot_neg, slot_pos, T.ag_3, T.es_22, T.ib_3, T.ii_22, T.ip_3, T.s8_22, T.sl_22, T.st_22, T.un_22, q0, q1, q5, hv', hw', hlt', hlt2, hqa, hqb, j1, j3, hK, w1, hxy]
          have hne : a ≠ b := fun e => hxy (by rw [e, hy] at hx; cases hx; rfl)
          rw [decide_eq_false hne]
      · have hlt' : ((i : Int) < (a.length : Int)) = False := eq_false (by omega)
        simp (config := { dsimp := false, maxSteps := 10000000 }) (disch := omega) only [go_sem, reduceIte, Nat.reduceEqDiff, reduceCtorEq, Nat.reduceAdd, Nat.reduceMul, Int.reduceToNat, Int.reduceLE, Int.reduceLT, Int.reduceEq, Int.reduceNe, Nat.reduceLeDiff, Int.reducePow, Nat.reducePow, Nat.reduceLT, Nat.reduceSub, Nat.reduceMod, Nat.reduceDiv, slot_neg, slot_pos, T.ag_3, T.es_22, T.ib_3, T.ii_22, T.ip_3, T.s8_22, T.sl_22, T.st_22, T.un_22, q0, q1, q5, hv, hlt']
        obtain rfl : i = a.length := by omega
        rw [List.take_length, hlen, List.take_length] at heq
        rw [decide_eq_true heq]
  · have hlen' : ((a.length : Int) = (b.length : Int)) = False := eq_false (by omega)
    (refine calls_of_vc [] hm Try.func23 rfl (ts := [4]) rfl (by kernel_rfl) (by simp) ?_; simp (config := { dsimp := false, maxSteps := 10000000 }) (disch := omega) only [go_sem, reduceIte, Nat.reduceEqDiff, reduceCtorEq, Nat.reduceAdd, Nat.reduceMul, Int.reduceToNat, Int.reduceLE, Int.reduceLT, Int.reduceEq, Int.reduceNe, Nat.reduceLeDiff, Int.reducePow, Nat.reducePow, Nat.reduceLT, Nat.reduceSub, Nat.reduceMod, Nat.reduceDiv, slot_neg, slot_pos, T.ag_3, T.es_22, T.ib_3, T.ii_22, T.ip_3, T.s8_22, T.sl_22, T.st_22, T.un_22, init_a, hv, hw, hlen'])
    rw [decide_eq_false fun e => hlen (congrArg _ e)]
/-- a state to which some were sent at once -/
def manyS (n : Nat) (size at_ : Int) : St := { newS with waits := (List.range n).map (fun i : Nat => (⟨Int.ofNat i, size, at_, true⟩ : Pk)), top := (n : Int) - 1, now := if n = 0 then 0 else at_, flight := n * size }
theorem many_zero (size at_ : Int) : manyS 0 size at_ = newS := by simp [manyS, newS]
theorem many_next (n : Nat) (size at_ : Int) : sentS (manyS n size at_) n size true at_ = manyS (n + 1) size at_ := by
  simp only [manyS, sentS, List.range_succ, List.map_append, List.map_cons, List.map_nil, if_true]
  have e1 : (n : Int) = ((n + 1 : Nat) : Int) - 1 := by omega
  have e2 : (n : Int) * size + size = ((n + 1 : Nat) : Int) * size := by rw [Int.natCast_add, Int.add_mul]; simp
  rw [e2, ← e1]
  simp
theorem many_ok {n : Nat} {size at_ : Int} (hn : n ≤ 1000) (hs : 1 ≤ size ∧ size ≤ 65535) (ha : 0 ≤ at_ ∧ at_ ≤ 1099511627776) : sentOk (manyS n size at_) n size at_ = true := by
  have h1 : (manyS n size at_).now ≤ at_ := by simp only [manyS]; split <;> omega
  have h2 : (manyS n size at_).top < n := by simp only [manyS]; omega
  exact (Bool.and_eq_true _ _).mpr ⟨decide_eq_true ⟨h1, ha.2⟩, decide_eq_true ⟨h2, by omega, hs⟩⟩
theorem many_Ok {n : Nat} {size at_ : Int} (hn : n ≤ 1000) (hs : 1 ≤ size ∧ size ≤ 65535) (ha : 0 ≤ at_ ∧ at_ ≤ 1099511627776) : Ok (manyS n size at_) := by
  induction n with
  | zero => rw [many_zero]; exact newS_ok
  | succ n ih =>
    rw [← many_next]
    exact (ih (by omega)).sent (by simp [manyS]; omega) (many_ok (by omega) hs ha)
theorem one_span (H : Heap) (a b : Int) : RowIn spE (H.alloc (.cells [.int .i64 a, .int .i64 b] .own)) (.slice (some ⟨H.next, 0, none⟩) 1 2) [⟨a, b⟩] :=
  .inr ⟨H.next, 0, _, _, rfl, by rw [get_alloc, if_pos rfl], by unfold RowV; simp [Enc.flat, spE]⟩
theorem NumR.upd {H H' : Heap} {v : Value} {l : List Int} (h : NumR H v l) (hu : Upd H H' []) : NumR H' v l :=
  ⟨h.1.upd fun A n st e => hu.2 _ (h.2 A n st e) (by simp), fun A n st e => Nat.lt_of_lt_of_le (h.2 A n st e) hu.1⟩
theorem one_num (H : Heap) (a : Int) : RowIn intE (H.alloc (.cells [.int .i64 a] .own)) (.slice (some ⟨H.next, 0, none⟩) 1 1) [a] :=
  .inr ⟨H.next, 0, _, _, rfl, by rw [get_alloc, if_pos rfl], by unfold RowV; simp [Enc.flat, intE]⟩
theorem two_num (H : Heap) (a b : Int) : RowIn intE (H.alloc (.cells [.int .i64 a, .int .i64 b] .own)) (.slice (some ⟨H.next, 0, none⟩) 2 1) [a, b] :=
  .inr ⟨H.next, 0, _, _, rfl, by rw [get_alloc, if_pos rfl], by unfold RowV; simp [Enc.flat, intE]⟩
theorem travels_ph (h : Heap) : @CallsH Try.prog 8 #[] h ⟨fun u H => u = .bool true ∧ Upd h H []⟩ := by
  (refine calls_of_codeR (rs := [.tmp 0]) Try.func8 rfl rfl (by simp) ?_)
  (refine CodeH.seq' (CodeH.of_vc [] hm (by kernel_rfl) ?_); simp (config := { dsimp := false, maxSteps := 10000000 }) (disch := omega) only [go_sem, reduceIte, Nat.reduceEqDiff, reduceCtorEq, Nat.reduceAdd, Nat.reduceMul, Int.reduceToNat, Int.reduceLE, Int.reduceLT, Int.reduceEq, Int.reduceNe, Nat.reduceLeDiff, Int.reducePow, Nat.reducePow, Nat.reduceLT, Nat.reduceSub, Nat.reduceMod, Nat.reduceDiv, slot_neg, slot_pos, T.eb_22, T.eb_33, T.ez_22, T.ez_33, T.gf_10, T.gf_11, T.gf_12, T.gf_14, T.gf_15, T.gf_16, T.gf_23, T.gf_9, T.ib_27, T.ib_3, T.ip_27, T.ip_3, T.pl_32, T.zo_32, init_a])
  (refine CodeH.seq' (CodeH.of_vc [] hm (by kernel_rfl) ?_); simp (config := { dsimp := false, maxSteps := 10000000 }) (disch := omega) only [go_sem, reduceIte, Nat.reduceEqDiff, reduceCtorEq, Nat.reduceAdd, Nat.reduceMul, Int.reduceToNat, Int.reduceLE, Int.reduceLT, Int.reduceEq, Int.reduceNe, Nat.reduceLeDiff, Int.reducePow, Nat.reducePow, Nat.reduceLT, Nat.reduceSub, Nat.reduceMod, Nat.reduceDiv, slot_neg, slot_pos, T.eb_22, T.eb_33, T.ez_22, T.ez_33, T.gf_10, T.gf_11, T.gf_12, T.gf_14, T.gf_15, T.gf_16, T.gf_23, T.gf_9, T.ib_27, T.ib_3, T.ip_27, T.ip_3, T.pl_32, T.zo_32, init_a])
  refine (New_lv h h (Upd.refl _ _)).mono fun u H ⟨p, e1, hL⟩ => ?_
  subst e1
  simp (config := { dsimp := false, maxSteps := 10000000 }) (disch := omega) only [go_sem, reduceIte, Nat.reduceEqDiff, reduceCtorEq, Nat.reduceAdd, Nat.reduceMul, Int.reduceToNat, Int.reduceLE, Int.reduceLT, Int.reduceEq, Int.reduceNe, Nat.reduceLeDiff, Int.reducePow, Nat.reducePow, Nat.reduceLT, Nat.reduceSub, Nat.reduceMod, Nat.reduceDiv, slot_neg, slot_pos, T.eb_22, T.eb_33, T.ez_22, T.ez_33, T.gf_10, T.gf_11, T.gf_12, T.gf_14, T.gf_15, T.gf_16, T.gf_23, T.gf_9, T.ib_27, T.ib_3, T.ip_27, T.ip_3, T.pl_32, T.zo_32]
  (refine CodeH.seq' (CodeH.of_vc [] hm (by kernel_rfl) ?_); simp (config := { dsimp := false, maxSteps := 10000000 }) (disch := omega) only [go_sem, reduceIte, Nat.reduceEqDiff, reduceCtorEq, Nat.reduceAdd, Nat.reduceMul, Int.reduceToNat, Int.reduceLE, Int.reduceLT, Int.reduceEq, Int.reduceNe, Nat.reduceLeDiff, Int.reducePow, Nat.reducePow, Nat.reduceLT, Nat.reduceSub, Nat.reduceMod, Nat.reduceDiv, slot_neg, slot_pos, T.eb_22, T.eb_33, T.ez_22, T.ez_33, T.gf_10, T.gf_11, T.gf_12, T.gf_14, T.gf_15, T.gf_16, T.gf_23, T.gf_9, T.ib_27, T.ib_3, T.ip_27, T.ip_3, T.pl_32, T.zo_32, init_a])
  refine loop_intro [] hm (fun r H => ∃ i : Nat, i ≤ 5 ∧ LV h p (manyS i 100 0) H ∧ r 1 = .pointer (some ⟨p, 0, none⟩) ∧ r 2 = .int .i64 i) (fun r _ => match r 2 with | .int _ i => 5 - i.toNat | _ => 0) ?_ ?_
  · exact ⟨0, by omega, by rw [many_zero]; exact hL, by simp [upd], by simp [upd]⟩
  · rintro r H ⟨i, hi, hL, q1, q2⟩
    by_cases hlt : i < 5
    · have hlt' : ((i : Int) < 5) = True := eq_true (by omega)
      have w1 : IntKind.i64.wrap ((i : Int) + 1) = ((i + 1 : Nat) : Int) := by rw [i64wrap] <;> omega
      simp (config := { dsimp := false, maxSteps := 10000000 }) (disch := omega) only [go_sem, reduceIte, Nat.reduceEqDiff, reduceCtorEq, Nat.reduceAdd, Nat.reduceMul, Int.reduceToNat, Int.reduceLE, Int.reduceLT, Int.reduceEq, Int.reduceNe, Nat.reduceLeDiff, Int.reducePow, Nat.reducePow, Nat.reduceLT, Nat.reduceSub, Nat.reduceMod, Nat.reduceDiv, slot_neg, slot_pos, T.eb_22, T.eb_33, T.ez_22, T.ez_33, T.gf_10, T.gf_11, T.gf_12, T.gf_14, T.gf_15, T.gf_16, T.gf_23, T.gf_9, T.ib_27, T.ib_3, T.ip_27, T.ip_3, T.pl_32, T.zo_32, q1, q2, hlt']
      refine (Sent_lv i 100 0 true hL (many_Ok (by omega) (by omega) (by omega)) (by simp [manyS]; omega) (many_ok (by omega) (by omega) (by omega))).mono fun u H2 ⟨e2, hL2⟩ => ?_
      subst e2
      rw [many_next] at hL2
      simp (config := { dsimp := false, maxSteps := 10000000 }) (disch := omega) only [go_sem, reduceIte, Nat.reduceEqDiff, reduceCtorEq, Nat.reduceAdd, Nat.reduceMul, Int.reduceToNat, Int.reduceLE, Int.reduceLT, Int.reduceEq, Int.reduceNe, Nat.reduceLeDiff, Int.reducePow, Nat.reducePow, Nat.reduceLT, Nat.reduceSub, Nat.reduceMod, Nat.reduceDiv, slot_neg, slot_pos, T.eb_22, T.eb_33, T.ez_22, T.ez_33, T.gf_10, T.gf_11, T.gf_12, T.gf_14, T.gf_15, T.gf_16, T.gf_23, T.gf_9, T.ib_27, T.ib_3, T.ip_27, T.ip_3, T.pl_32, T.zo_32, q1, q2, w1]
      exact ⟨⟨i + 1, hlt, hL2, rfl⟩, by omega⟩
    · have hlt' : ((i : Int) < 5) = False := eq_false (by omega)
      obtain rfl : i = 5 := by omega
      simp (config := { dsimp := false, maxSteps := 10000000 }) (disch := omega) only [go_sem, reduceIte, Nat.reduceEqDiff, reduceCtorEq, Nat.reduceAdd, Nat.reduceMul, Int.reduceToNat, Int.reduceLE, Int.reduceLT, Int.reduceEq, Int.reduceNe, Nat.reduceLeDiff, Int.reducePow, Nat.reducePow, Nat.reduceLT, Nat.reduceSub, Nat.reduceMod, Nat.reduceDiv, slot_neg, slot_pos, T.eb_22, T.eb_33, T.ez_22, T.ez_33, T.gf_10, T.gf_11, T.gf_12, T.gf_14, T.gf_15, T.gf_16, T.gf_23, T.gf_9, T.ib_27, T.ib_3, T.ip_27, T.ip_3, T.pl_32, T.zo_32, q1, q2, hlt']
      have hL5 := hL
      clear hL
      have hOk5 : Ok (manyS 5 100 0) := many_Ok (by omega) (by omega) (by omega)
      (refine CodeH.seq' (CodeH.of_vc [] hm (by kernel_rfl) ?_); simp (config := { dsimp := false, maxSteps := 10000000 }) (disch := omega) only [go_sem, reduceIte, Nat.reduceEqDiff, reduceCtorEq, Nat.reduceAdd, Nat.reduceMul, Int.reduceToNat, Int.reduceLE, Int.reduceLT, Int.reduceEq, Int.reduceNe, Nat.reduceLeDiff, Int.reducePow, Nat.reducePow, Nat.reduceLT, Nat.reduceSub, Nat.reduceMod, Nat.reduceDiv, slot_neg, slot_pos, T.eb_22, T.eb_33, T.ez_22, T.ez_33, T.gf_10, T.gf_11, T.gf_12, T.gf_14, T.gf_15, T.gf_16, T.gf_23, T.gf_9, T.ib_27, T.ib_3, T.ip_27, T.ip_3, T.pl_32, T.zo_32, init_a, q1])
      refine (Acked_lv 0 40 hL5 (Upd.alloc _ _ []) hOk5 (one_span H 4 4) (fun A n st e => by cases e; exact ⟨Nat.le_refl _, Nat.lt_succ_self _⟩) (by decide)).mono fun u H2 ⟨v1, v2, e2, n1, n2, hL2⟩ => ?_
      have hOk6 := hOk5.ackS [⟨4, 4⟩] 0 40
      have a1 : (ackS (manyS 5 100 0) [⟨4, 4⟩] 0 40).2.2.2 = 0 := by decide
      have a2 : (ackS (manyS 5 100 0) [⟨4, 4⟩] 0 40).2.1 = [4] := by decide
      have a3 : (ackS (manyS 5 100 0) [⟨4, 4⟩] 0 40).2.2.1 = [0, 1] := by decide
      have a4 : (ackS (manyS 5 100 0) [⟨4, 4⟩] 0 40).1.smooth = 40 := by decide
      have a5 : (ackS (manyS 5 100 0) [⟨4, 4⟩] 0 40).1.vary = 20 := by decide
      have a6 : (ackS (manyS 5 100 0) [⟨4, 4⟩] 0 40).1.window = 6050 := by decide
      have a7 : (ackS (manyS 5 100 0) [⟨4, 4⟩] 0 40).1.flight = 200 := by decide
      have a8 : timerS (ackS (manyS 5 100 0) [⟨4, 4⟩] 0 40).1 = (45, true, true) := by decide
      rw [a1] at e2
      rw [a2] at n1
      rw [a3] at n2
      generalize (ackS (manyS 5 100 0) [⟨4, 4⟩] 0 40).1 = s6 at *
      subst e2
      simp (config := { dsimp := false, maxSteps := 10000000 }) (disch := omega) only [go_sem, reduceIte, Nat.reduceEqDiff, reduceCtorEq, Nat.reduceAdd, Nat.reduceMul, Int.reduceToNat, Int.reduceLE, Int.reduceLT, Int.reduceEq, Int.reduceNe, Nat.reduceLeDiff, Int.reducePow, Nat.reducePow, Nat.reduceLT, Nat.reduceSub, Nat.reduceMod, Nat.reduceDiv, slot_neg, slot_pos, T.eb_22, T.eb_33, T.ez_22, T.ez_33, T.gf_10, T.gf_11, T.gf_12, T.gf_14, T.gf_15, T.gf_16, T.gf_23, T.gf_9, T.ib_27, T.ib_3, T.ip_27, T.ip_3, T.pl_32, T.zo_32, q1]
      (refine CodeH.seq' (CodeH.of_vc [] hm (by kernel_rfl) ?_); simp (config := { dsimp := false, maxSteps := 10000000 }) (disch := omega) only [go_sem, reduceIte, Nat.reduceEqDiff, reduceCtorEq, Nat.reduceAdd, Nat.reduceMul, Int.reduceToNat, Int.reduceLE, Int.reduceLT, Int.reduceEq, Int.reduceNe, Nat.reduceLeDiff, Int.reducePow, Nat.reducePow, Nat.reduceLT, Nat.reduceSub, Nat.reduceMod, Nat.reduceDiv, slot_neg, slot_pos, T.eb_22, T.eb_33, T.ez_22, T.ez_33, T.gf_10, T.gf_11, T.gf_12, T.gf_14, T.gf_15, T.gf_16, T.gf_23, T.gf_9, T.ib_27, T.ib_3, T.ip_27, T.ip_3, T.pl_32, T.zo_32, init_a, q1])
      refine CallsH.pure _ rfl (Trip_ph _ p s6 hL2.view.ro) ?_
      simp (config := { dsimp := false, maxSteps := 10000000 }) (disch := omega) only [go_sem, reduceIte, Nat.reduceEqDiff, reduceCtorEq, Nat.reduceAdd, Nat.reduceMul, Int.reduceToNat, Int.reduceLE, Int.reduceLT, Int.reduceEq, Int.reduceNe, Nat.reduceLeDiff, Int.reducePow, Nat.reducePow, Nat.reduceLT, Nat.reduceSub, Nat.reduceMod, Nat.reduceDiv, slot_neg, slot_pos, T.eb_22, T.eb_33, T.ez_22, T.ez_33, T.gf_10, T.gf_11, T.gf_12, T.gf_14, T.gf_15, T.gf_16, T.gf_23, T.gf_9, T.ib_27, T.ib_3, T.ip_27, T.ip_3, T.pl_32, T.zo_32]
      (refine CodeH.seq' (CodeH.of_vc [] hm (by kernel_rfl) ?_); simp (config := { dsimp := false, maxSteps := 10000000 }) (disch := omega) only [go_sem, reduceIte, Nat.reduceEqDiff, reduceCtorEq, Nat.reduceAdd, Nat.reduceMul, Int.reduceToNat, Int.reduceLE, Int.reduceLT, Int.reduceEq, Int.reduceNe, Nat.reduceLeDiff, Int.reducePow, Nat.reducePow, Nat.reduceLT, Nat.reduceSub, Nat.reduceMod, Nat.reduceDiv, slot_neg, slot_pos, T.eb_22, T.eb_33, T.ez_22, T.ez_33, T.gf_10, T.gf_11, T.gf_12, T.gf_14, T.gf_15, T.gf_16, T.gf_23, T.gf_9, T.ib_27, T.ib_3, T.ip_27, T.ip_3, T.pl_32, T.zo_32, init_a, q1])
      refine CallsH.pure _ rfl (Timer_ph _ p s6 hL2.view.ro hOk6) ?_
      simp (config := { dsimp := false, maxSteps := 10000000 }) (disch := omega) only [go_sem, reduceIte, Nat.reduceEqDiff, reduceCtorEq, Nat.reduceAdd, Nat.reduceMul, Int.reduceToNat, Int.reduceLE, Int.reduceLT, Int.reduceEq, Int.reduceNe, Nat.reduceLeDiff, Int.reducePow, Nat.reducePow, Nat.reduceLT, Nat.reduceSub, Nat.reduceMod, Nat.reduceDiv, slot_neg, slot_pos, T.eb_22, T.eb_33, T.ez_22, T.ez_33, T.gf_10, T.gf_11, T.gf_12, T.gf_14, T.gf_15, T.gf_16, T.gf_23, T.gf_9, T.ib_27, T.ib_3, T.ip_27, T.ip_3, T.pl_32, T.zo_32]
      rw [a4, a5, a8]
      (refine CodeH.of_vc [] hm (by kernel_rfl) ?_; simp (config := { dsimp := false, maxSteps := 10000000 }) (disch := omega) only [go_sem, reduceIte, Nat.reduceEqDiff, reduceCtorEq, Nat.reduceAdd, Nat.reduceMul, Int.reduceToNat, Int.reduceLE, Int.reduceLT, Int.reduceEq, Int.reduceNe, Nat.reduceLeDiff, Int.reducePow, Nat.reducePow, Nat.reduceLT, Nat.reduceSub, Nat.reduceMod, Nat.reduceDiv, slot_neg, slot_pos, T.eb_22, T.eb_33, T.ez_22, T.ez_33, T.gf_10, T.gf_11, T.gf_12, T.gf_14, T.gf_15, T.gf_16, T.gf_23, T.gf_9, T.ib_27, T.ib_3, T.ip_27, T.ip_3, T.pl_32, T.zo_32, init_a, q1])
      refine CallsH.pure _ rfl (Ints_ph _ _ _ [4] [4] (n1.upd (Upd.alloc _ _ [])).1.ro (one_num H2 4).ro (by decide)) ?_
      simp (config := { dsimp := false, maxSteps := 10000000 }) (disch := omega) only [go_sem, reduceIte, Nat.reduceEqDiff, reduceCtorEq, Nat.reduceAdd, Nat.reduceMul, Int.reduceToNat, Int.reduceLE, Int.reduceLT, Int.reduceEq, Int.reduceNe, Nat.reduceLeDiff, Int.reducePow, Nat.reducePow, Nat.reduceLT, Nat.reduceSub, Nat.reduceMod, Nat.reduceDiv, slot_neg, slot_pos, T.eb_22, T.eb_33, T.ez_22, T.ez_33, T.gf_10, T.gf_11, T.gf_12, T.gf_14, T.gf_15, T.gf_16, T.gf_23, T.gf_9, T.ib_27, T.ib_3, T.ip_27, T.ip_3, T.pl_32, T.zo_32]
      refine CallsH.pure _ rfl (Ints_ph _ _ _ [0, 1] [0, 1] (n2.upd ((Upd.alloc H2 _ []).allocs)).1.ro (two_num _ 0 1).ro (by decide)) ?_
      simp (config := { dsimp := false, maxSteps := 10000000 }) (disch := omega) only [go_sem, reduceIte, Nat.reduceEqDiff, reduceCtorEq, Nat.reduceAdd, Nat.reduceMul, Int.reduceToNat, Int.reduceLE, Int.reduceLT, Int.reduceEq, Int.reduceNe, Nat.reduceLeDiff, Int.reducePow, Nat.reducePow, Nat.reduceLT, Nat.reduceSub, Nat.reduceMod, Nat.reduceDiv, slot_neg, slot_pos, T.eb_22, T.eb_33, T.ez_22, T.ez_33, T.gf_10, T.gf_11, T.gf_12, T.gf_14, T.gf_15, T.gf_16, T.gf_23, T.gf_9, T.ib_27, T.ib_3, T.ip_27, T.ip_3, T.pl_32, T.zo_32, q1]
      have hL3 := hL2.upd ((Upd.alloc H2 (.cells [.int .i64 4] .own) []).allocs (b := .cells [.int .i64 0, .int .i64 1] .own))
      refine CallsH.pure _ rfl (Window_ph _ p s6 hL3.view.ro) ?_
      simp (config := { dsimp := false, maxSteps := 10000000 }) (disch := omega) only [go_sem, reduceIte, Nat.reduceEqDiff, reduceCtorEq, Nat.reduceAdd, Nat.reduceMul, Int.reduceToNat, Int.reduceLE, Int.reduceLT, Int.reduceEq, Int.reduceNe, Nat.reduceLeDiff, Int.reducePow, Nat.reducePow, Nat.reduceLT, Nat.reduceSub, Nat.reduceMod, Nat.reduceDiv, slot_neg, slot_pos, T.eb_22, T.eb_33, T.ez_22, T.ez_33, T.gf_10, T.gf_11, T.gf_12, T.gf_14, T.gf_15, T.gf_16, T.gf_23, T.gf_9, T.ib_27, T.ib_3, T.ip_27, T.ip_3, T.pl_32, T.zo_32, q1, a6]
      refine CallsH.pure _ rfl (Flight_ph _ p s6 hL3.view.ro) ?_
      simp (config := { dsimp := false, maxSteps := 10000000 }) (disch := omega) only [go_sem, reduceIte, Nat.reduceEqDiff, reduceCtorEq, Nat.reduceAdd, Nat.reduceMul, Int.reduceToNat, Int.reduceLE, Int.reduceLT, Int.reduceEq, Int.reduceNe, Nat.reduceLeDiff, Int.reducePow, Nat.reducePow, Nat.reduceLT, Nat.reduceSub, Nat.reduceMod, Nat.reduceDiv, slot_neg, slot_pos, T.eb_22, T.eb_33, T.ez_22, T.ez_33, T.gf_10, T.gf_11, T.gf_12, T.gf_14, T.gf_15, T.gf_16, T.gf_23, T.gf_9, T.ib_27, T.ib_3, T.ip_27, T.ip_3, T.pl_32, T.zo_32, q1, a7]
      exact hL3.is
end Ph
