import Derived.Test.YthghohhaagkbnaaC6
import Derived.Test.YthghohhaagkbnaaPhRead
set_option maxRecDepth 100000
set_option maxHeartbeats 4000000
set_option linter.unusedSimpArgs false
set_option linter.unusedVariables false
namespace Ph
open Go Go.Proofs
attribute [local irreducible] Value.cells
attribute [local go_sem ↓] y_move y_assign y_pick y_nil y_bin y_un y_fa y_field y_ext y_ia y_ix y_slice y_build y_mf y_rg y_nx y_en y_mm y_lk y_mu y_del y_load y_len y_min y_max y_conv y_bs y_mk y_alloc y_box y_store y_clear y_app y_callf y_callt s_move s_assign s_pick s_nil s_bin s_un s_fa s_field s_ext s_ia s_ix s_slice s_conv s_build s_bs s_mf s_alloc s_box s_rg s_nx s_en s_mm s_lk s_mu s_del s_load s_store s_len s_clear s_min s_max s_app s_call q_call q_move q_assign q_pick q_nil q_bin q_un q_fa q_field q_ext q_ia q_ix q_slice q_conv q_build q_mf q_lk q_load q_len q_min q_max l_nil l_move l_assign l_pick l_nilc l_bin l_un l_fa l_field l_ext l_ia l_ix l_slice l_conv l_build l_mf l_lk l_load l_len l_min l_max l_call put_eq putN_eq o_nil o_plain o_gate v_nil v_plain v_gate vc_skip vc_region vc_seq vc_cond vc_block vc_loop vc_rf vc_exit vc_ret blk_normal blk_ret blk_exit on_normal on_ret on_exit vc_drawn draw_q s_mk l_bs l_mk l_rg l_nx l_en l_mm l_mu l_del l_alloc l_box l_store l_app l_clear pl_done pl_takeS pl_take pl_alt pl_stop one_plain one_gate
attribute [local go_sem] clear_nil clear_sl onAgg_a onTuple_t onFn_f onFn_y onFunc_f c_int c_nil c_sl c_str sl_sl sl_nil sl_str ix_str ix_agg n_nil n_sl n_str app_eq k_nil k_sl len_sl len_str len_mn len_m onMap_m onIter_i rg_n rg_m nx_p en_p lk_n lk_m up_m setM_n setM_s del_n del_m kt_s kt_i upd_some upd_none ev_tmp ev_const ev_func rd_some gdst_eq otmp_t otmp_c get_put get_alloc next_put next_alloc get_app next_app init_a resV1 resV2 onPtr_ptr onBool_b onInt_i onSlice_s onSome_s onCells_c lett_eq gate_tt gate_tf gate_ff gate_ft gate_dt gate_df also_eq bin un minmax io_none io_some bo_none bo_some partOf List.getElem?_cons_zero List.getElem?_cons_succ List.getElem?_toArray Option.map_some Option.map_none Option.bind_some ne_eq not_true_eq_false not_false_eq_true false_implies true_implies and_true true_and and_self Bool.false_eq_true Nat.zero_add Nat.add_zero List.size_toArray List.length_cons List.length_nil List.map_toArray List.map_cons List.map_nil Array.getD_eq_getD_getElem? Option.getD_some Bool.not_true Bool.not_false Bool.not_eq_true Option.isNone_some Option.isNone_none List.append_toArray List.append_nil List.nil_append List.cons_append decide_true decide_false in_nil in_cons Bool.and_false Bool.and_true Bool.or_false Bool.true_or Bool.false_or get_mask next_mask get_unmask next_unmask ac_move ac_assign ac_pick ac_nil ac_bin ac_un ac_fa ac_field ac_ext ac_ia ac_ix ac_slice ac_build ac_mf ac_call ac_len ac_lk ac_min ac_max accM_m accM_n accM_s accM_t ac_load ac_conv accP_p accS_s accS_n accS_i accS_t fixed_ro fixed_lock fixed_own get_ro next_ro lock_live' lock_cells List.mem_cons List.not_mem_nil or_false false_or or_true true_or and_false false_and IntKind.bits Int.natCast_zero Int.natCast_one size_str data_str list_str mk_str ext_str app_str bytes_str w_byte w_byteu Int.toNat_natCast Int.toNat_zero Int.toNat_one Nat.sub_zero ge_iff_le gt_iff_lt Nat.le_refl Int.le_refl List.drop_zero Int.ofNat_eq_natCast Int.natCast_nonneg Int.sub_zero oc_int oc_bool oc_str oc_ptr oc_sl oc_map oc_func List.set_cons_zero List.set_cons_succ Nat.mul_one List.all_cons List.all_nil Bool.and_self res_nil res_tmp res_cell tup_one tup_two tup_nil fill_nil repl_zero cells_agg List.append_eq List.toList_toArray Nat.zero_mul Nat.one_mul repl_one repl_two onSome_build fill_cons onSome_lit splice_eq cells_int cells_bool cells_str cells_ptr cells_sl cells_map cells_func loadK_n loadK_s load_k storeK_n storeK_s store_k all_arr List.take_zero List.take_succ_cons List.drop_succ_cons List.take_nil List.drop_nil lk_own lk_ro lk_lock lk_lk fixed_lk gate_nt gate_nf gate3_b gate3_u undef Bool.true_and Bool.false_and nx_l nx_r nx_lt put_put resV0
/-! CacheTimes. -/
theorem slr_int {h : Heap} {v : Value} {l : List Int} (hs : SlR (Rd.int .i64) h v l) : RowIn iE h v l ∧ ∀ A n st, v = .slice (some A) n st → A.block < h.next := by
  rcases hs with ⟨rfl, rfl⟩ | ⟨i, cells, rfl, h2, h3, h4, h5⟩
  · exact ⟨.inl ⟨rfl, rfl⟩, fun A n st e => by cases e⟩
  · refine ⟨.inr ⟨i, 0, cells, .ro, rfl, h3, ?_⟩, fun A n st e => by cases e; exact h2⟩
    have e1 : (Rd.int .i64).sz = 1 := rfl
    rw [e1, Nat.mul_one] at h4
    refine ⟨by rw [show iE.k = 1 from rfl]; omega, ?_⟩
    rw [show iE.k = 1 from rfl, Nat.mul_one, List.drop_zero, ← h4, List.take_length]
    apply List.ext_getElem?
    intro k
    have ef : ∀ m : List Int, iE.flat m = m.map fun n : Int => Value.int .i64 n := fun m => by
      induction m with
      | nil => rfl
      | cons x m ih => rw [show iE.flat (x :: m) = [.int .i64 x] ++ iE.flat m from by simp [Enc.flat, iE], ih]; rfl
    rw [ef, List.getElem?_map]
    rcases Nat.lt_or_ge k l.length with hk | hk
    · have hx : l[k]? = some l[k] := List.getElem?_eq_getElem hk
      have h6 := h5 k l[k] hx
      rw [e1, Nat.mul_one] at h6
      have h7 : (cells.drop k).take 1 = [.int .i64 l[k]] := h6
      rw [hx]
      have h8 : cells[k]? = ((cells.drop k).take 1)[0]? := by rw [List.getElem?_take_of_lt (by omega), List.getElem?_drop, Nat.add_zero]
      rw [h8, h7]; rfl
    · rw [List.getElem?_eq_none (by omega), List.getElem?_eq_none hk]; rfl
structure TI (K : Nat → Int) (i : Nat) (c : Ca) : Prop where
  shape : ∀ x ∈ c.l, ∃ j : Nat, j < i ∧ x.key = .int .i64 j ∧ x.val = .int .i64 (j * j : Nat) ∧ x.goes = j + K j
  has : ∀ j : Nat, j < i → c.now < j + K j → ∃ x ∈ c.l, x.key = .int .i64 j
  ok : CaOk c
  most : c.most = 100
  puts : c.puts ≤ i
  len : c.l.length ≤ i
theorem TI.start (K : Nat → Int) : TI K 0 ⟨[], 100, 0, 0⟩ := ⟨by simp, by simp, CaOk.start (by omega) (by omega), rfl, by simp, by simp⟩
theorem now_le (c : Ca) (at_ : Int) : c.now ≤ nowC c at_ := by unfold nowC; omega
theorem TI.goes {K : Nat → Int} {i : Nat} {c : Ca} (h : TI K i c) {x : Th} (hx : x ∈ c.l) {j : Nat} (e : x.key = .int .i64 j) : x.val = .int .i64 (j * j : Nat) ∧ x.goes = j + K j := by
  obtain ⟨j', _, e1, e2, e3⟩ := h.shape x hx
  rw [e] at e1
  have : j = j' := by injection e1 with _ e4; omega
  subst this
  exact ⟨e2, e3⟩
theorem TI.time {K : Nat → Int} {i : Nat} {c : Ca} (h : TI K i c) (at_ : Int) : TI K i (timeC c at_) := by
  refine ⟨fun x hx => h.shape x (List.mem_filter.1 hx).1, fun j hj hg => ?_, h.ok.time at_, h.most, h.puts, Nat.le_trans (List.length_filter_le _ _) h.len⟩
  have h0 := now_le c at_
  have hg' : nowC c at_ < j + K j := hg
  obtain ⟨x, hx, e⟩ := h.has j hj (by omega)
  refine ⟨x, List.mem_filter.2 ⟨hx, ?_⟩, e⟩
  have := (h.goes hx e).2
  have h9 : ¬ x.goes ≤ nowC c at_ := by omega
  rw [decide_eq_false h9]; rfl
theorem TI.put {K : Nat → Int} {i : Nat} {c : Ca} (h : TI K i c) (hi : i < 60) (hK : 0 ≤ K i ∧ K i < 1000) (hn : c.now ≤ i) (b : Nat) (one : (Value.int .i64 (i : Int)).oneCell' = true ∧ (Value.int .i64 (i * i : Nat)).oneCell' = true) :
    TI K (i + 1) (putS c (.int .i64 (i : Int)) (.int .i64 (i * i : Nat)) (K i) i b one) ∧ (putS c (.int .i64 (i : Int)) (.int .i64 (i * i : Nat)) (K i) i b one).now = i := by
  have hok := h.ok.put (k := .int .i64 (i : Int)) (v := .int .i64 (i * i : Nat)) (keep := K i) (at_ := i) (b := b) (one := one)
  have h1 := h.time i
  have hnow : (timeC c i).now = i := by show nowC c i = i; unfold nowC farC; omega
  have hw : (Ph.without (timeC c i) (.int .i64 (i : Int))).l = (timeC c i).l := List.filter_eq_self.2 fun x hx => by
    obtain ⟨j, hj, e, _⟩ := h1.shape x hx
    rw [e, keq_no kind_int ⟨_, rfl⟩ ⟨_, rfl⟩ (by intro e2; injection e2 with _ e3; omega)]; rfl
  have hput : putS c (.int .i64 (i : Int)) (.int .i64 (i * i : Nat)) (K i) i b one = if K i = 0 then timeC c i else { timeC c i with l := (timeC c i).l ++ [⟨.int .i64 (i : Int), .int .i64 (i * i : Nat), i + K i, c.puts + 1, b, one⟩], puts := c.puts + 1 } := by
    unfold putS
    have e0 : Ph.without (timeC c i) (.int .i64 (i : Int)) = timeC c i := by
      unfold Ph.without at hw ⊢
      simp only at hw
      rw [hw]
    simp only [e0]
    have hl := h1.len
    have hm := h1.most
    have h2 : ¬ (timeC c i).most ≤ ((timeC c i).l.length : Int) := by omega
    rw [if_neg h2, hnow]
    rfl
  rw [hput] at hok ⊢
  by_cases hk : K i = 0
  · rw [if_pos hk] at hok ⊢
    refine ⟨⟨fun x hx => ?_, fun j hj hg => ?_, hok, h1.most, by have := h1.puts; omega, by have := h1.len; omega⟩, hnow⟩
    · obtain ⟨j, hj, e⟩ := h1.shape x hx
      exact ⟨j, by omega, e⟩
    · rcases Nat.lt_or_ge j i with h3 | h3
      · exact h1.has j h3 hg
      · obtain rfl : j = i := by omega
        rw [hnow, hk] at hg; omega
  · rw [if_neg hk] at hok ⊢
    refine ⟨⟨fun x hx => ?_, fun j hj hg => ?_, hok, h1.most, by have := h.puts; simp only; omega, by have := h1.len; simp only [List.length_append, List.length_singleton]; omega⟩, hnow⟩
    · rcases List.mem_append.1 hx with h3 | h3
      · obtain ⟨j, hj, e⟩ := h1.shape x h3
        exact ⟨j, by omega, e⟩
      · rw [List.mem_singleton.1 h3]
        exact ⟨i, by omega, rfl, rfl, rfl⟩
    · rcases Nat.lt_or_ge j i with h3 | h3
      · obtain ⟨x, hx, e⟩ := h1.has j h3 hg
        exact ⟨x, List.mem_append_left _ hx, e⟩
      · obtain rfl : j = i := by omega
        exact ⟨_, List.mem_append_right _ (List.mem_singleton.2 rfl), rfl⟩
theorem modm (x m : Int) (hm : 0 < m ∧ m ≤ 2000000) : ∃ k : Nat, (k : Int) < m ∧ IntKind.i64.wrap ((IntKind.u64.wrap x).tmod m) = k := by
  have h0 : 0 ≤ IntKind.u64.wrap x := by simp only [IntKind.wrap, IntKind.bits, IntKind.signed]; simp; omega
  generalize IntKind.u64.wrap x = y at *
  rw [Int.tmod_eq_emod_of_nonneg h0]
  have h1 := Int.emod_nonneg y (b := m) (by omega)
  have h2 := Int.emod_lt_of_pos y hm.1
  exact ⟨(y % m).toNat, by omega, by rw [i64wrap (by omega) (by omega)]; omega⟩
theorem nb1 : (!(true == true)) = false := rfl
theorem nb2 : (!(false == false)) = false := rfl
def keepK (l : List Int) (j : Nat) : Int := IntKind.i64.wrap ((IntKind.u64.wrap (l[j]?.getD 0)).tmod 1000)
theorem keepK_ok (l : List Int) (j : Nat) : 0 ≤ keepK l j ∧ keepK l j < 1000 := by
  obtain ⟨k, h1, h2⟩ := modm (l[j]?.getD 0) 1000 (by omega)
  unfold keepK; rw [h2]; omega
theorem row_at {h : Heap} {v : Value} {l : List Int} (hr : RowIn iE h v l) {i : Nat} (hi : i < l.length) : ∃ q off vs o, v = .slice (some ⟨q, off, none⟩) l.length 1 ∧ h.get q = .live (.cells vs o) ∧ vs[off + i]? = some (.int .i64 l[i]) ∧ off + l.length ≤ vs.length := by
  rcases hr with ⟨_, hnil⟩ | ⟨q, off, vs, o, hv, hq, hR⟩
  · subst hnil; simp at hi
  · refine ⟨q, off, vs, o, hv, hq, ?_, by have := hR.1; simpa [iE] using this⟩
    have := hR.cell (List.getElem?_eq_getElem hi) (j := 0) (by decide)
    simpa [iE] using this
theorem CacheTimes_ph (h : Heap) (l0 : (List Int)) (s0 : Value) (hs0 : SlR (Rd.int .i64) h s0 l0) (x1 : Int) (wf0 : (l0.length ≤ maxLen ∧ ∀ x ∈ l0, (Lit.int .i64 x).wf = true)) (wf1 : (Lit.int .i64 x1).wf = true) :
    @CallsH Try.prog 3 #[s0, .int .i64 x1] h ⟨fun u _ => u = .bool true⟩ := by
  obtain ⟨hr0, hlt0⟩ := slr_int hs0
  have hlen : l0.length ≤ 9223372036854775807 := by have := wf0.1; unfold maxLen at this; omega
  (refine calls_of_codeR (rs := [.tmp 4]) Try.func3 rfl rfl (by simp) ?_)
  (refine CodeH.seq' (CodeH.of_vc [] hm (by kernel_rfl) ?_); simp (config := { dsimp := false, maxSteps := 10000000 }) (disch := omega) only [go_sem, reduceIte, Nat.reduceEqDiff, reduceCtorEq, Nat.reduceAdd, Nat.reduceMul, Int.reduceToNat, Int.reduceLE, Int.reduceLT, Int.reduceEq, Int.reduceNe, Nat.reduceLeDiff, Int.reducePow, Nat.reducePow, Nat.reduceLT, Nat.reduceSub, Nat.reduceMod, Nat.reduceDiv, slot_neg, slot_pos, T.ag_3, T.es_22, T.gf_10, T.gf_11, T.gf_12, T.gf_9, T.ib_25, T.ib_28, T.ib_3, T.ib_4, T.ii_22, T.ii_28, T.ii_3, T.ip_25, T.ip_28, T.ip_3, T.ip_4, T.s8_22, T.s8_28, T.s8_3, T.sl_22, T.sl_28, T.sl_3, T.st_22, T.st_28, T.st_3, T.un_22, T.un_28, T.un_3, init_a])
  refine CodeH.seq (fun r H => r 0 = s0 ∧ r 1 = .int .i64 x1 ∧ Upd h H []) (CodeH.of_vc [] hm (by kernel_rfl) ?_) fun r H ⟨q0, q1, hU⟩ => ?_
  · simp (config := { dsimp := false, maxSteps := 10000000 }) (disch := omega) only [go_sem, reduceIte, Nat.reduceEqDiff, reduceCtorEq, Nat.reduceAdd, Nat.reduceMul, Int.reduceToNat, Int.reduceLE, Int.reduceLT, Int.reduceEq, Int.reduceNe, Nat.reduceLeDiff, Int.reducePow, Nat.reducePow, Nat.reduceLT, Nat.reduceSub, Nat.reduceMod, Nat.reduceDiv, slot_neg, slot_pos, T.ag_3, T.es_22, T.gf_10, T.gf_11, T.gf_12, T.gf_9, T.ib_25, T.ib_28, T.ib_3, T.ib_4, T.ii_22, T.ii_28, T.ii_3, T.ip_25, T.ip_28, T.ip_3, T.ip_4, T.s8_22, T.s8_28, T.s8_3, T.sl_22, T.sl_28, T.sl_3, T.st_22, T.st_28, T.st_3, T.un_22, T.un_28, T.un_3]
    refine (keeps_ph _).mono fun u H ⟨hu, hU⟩ => ?_
    subst hu
    simp (config := { dsimp := false, maxSteps := 10000000 }) (disch := omega) only [go_sem, reduceIte, Nat.reduceEqDiff, reduceCtorEq, Nat.reduceAdd, Nat.reduceMul, Int.reduceToNat, Int.reduceLE, Int.reduceLT, Int.reduceEq, Int.reduceNe, Nat.reduceLeDiff, Int.reducePow, Nat.reducePow, Nat.reduceLT, Nat.reduceSub, Nat.reduceMod, Nat.reduceDiv, slot_neg, slot_pos, T.ag_3, T.es_22, T.gf_10, T.gf_11, T.gf_12, T.gf_9, T.ib_25, T.ib_28, T.ib_3, T.ib_4, T.ii_22, T.ii_28, T.ii_3, T.ip_25, T.ip_28, T.ip_3, T.ip_4, T.s8_22, T.s8_28, T.s8_3, T.sl_22, T.sl_28, T.sl_3, T.st_22, T.st_28, T.st_3, T.un_22, T.un_28, T.un_3]
    exact hU
  refine CodeH.seq (fun r H => r 0 = s0 ∧ r 1 = .int .i64 x1 ∧ ∃ p id, h.next ≤ p ∧ h.next ≤ id ∧ r 5 = .pointer (some ⟨p, 0, none⟩) ∧ r 6 = .int .i64 0 ∧ CaR isIntV H p id ⟨[], 100, 0, 0⟩ ∧ Upd h H []) (CodeH.of_vc [] hm (by kernel_rfl) ?_) fun r H ⟨q0, q1, p, id, hp, hid, q5, q6, hC, hU⟩ => ?_
  · simp (config := { dsimp := false, maxSteps := 10000000 }) (disch := omega) only [go_sem, reduceIte, Nat.reduceEqDiff, reduceCtorEq, Nat.reduceAdd, Nat.reduceMul, Int.reduceToNat, Int.reduceLE, Int.reduceLT, Int.reduceEq, Int.reduceNe, Nat.reduceLeDiff, Int.reducePow, Nat.reducePow, Nat.reduceLT, Nat.reduceSub, Nat.reduceMod, Nat.reduceDiv, slot_neg, slot_pos, T.ag_3, T.es_22, T.gf_10, T.gf_11, T.gf_12, T.gf_9, T.ib_25, T.ib_28, T.ib_3, T.ib_4, T.ii_22, T.ii_28, T.ii_3, T.ip_25, T.ip_28, T.ip_3, T.ip_4, T.s8_22, T.s8_28, T.s8_3, T.sl_22, T.sl_28, T.sl_3, T.st_22, T.st_28, T.st_3, T.un_22, T.un_28, T.un_3, q0, q1]
    refine (NewI_ph H 100 (by omega) (by omega)).mono fun u H2 ⟨p, id, hp, hid, hu, hC, hU2⟩ => ?_
    subst hu
    have := hU.1
    simp (config := { dsimp := false, maxSteps := 10000000 }) (disch := omega) only [go_sem, reduceIte, Nat.reduceEqDiff, reduceCtorEq, Nat.reduceAdd, Nat.reduceMul, Int.reduceToNat, Int.reduceLE, Int.reduceLT, Int.reduceEq, Int.reduceNe, Nat.reduceLeDiff, Int.reducePow, Nat.reducePow, Nat.reduceLT, Nat.reduceSub, Nat.reduceMod, Nat.reduceDiv, slot_neg, slot_pos, T.ag_3, T.es_22, T.gf_10, T.gf_11, T.gf_12, T.gf_9, T.ib_25, T.ib_28, T.ib_3, T.ib_4, T.ii_22, T.ii_28, T.ii_3, T.ip_25, T.ip_28, T.ip_3, T.ip_4, T.s8_22, T.s8_28, T.s8_3, T.sl_22, T.sl_28, T.sl_3, T.st_22, T.st_28, T.st_3, T.un_22, T.un_28, T.un_3, q0, q1]
    exact ⟨p, id, by omega, by omega, rfl, hC, hU.trans hU2 (by simp)⟩
  (refine CodeH.seq' (CodeH.of_vc [] hm (by kernel_rfl) ?_); simp (config := { dsimp := false, maxSteps := 10000000 }) (disch := omega) only [go_sem, reduceIte, Nat.reduceEqDiff, reduceCtorEq, Nat.reduceAdd, Nat.reduceMul, Int.reduceToNat, Int.reduceLE, Int.reduceLT, Int.reduceEq, Int.reduceNe, Nat.reduceLeDiff, Int.reducePow, Nat.reducePow, Nat.reduceLT, Nat.reduceSub, Nat.reduceMod, Nat.reduceDiv, slot_neg, slot_pos, T.ag_3, T.es_22, T.gf_10, T.gf_11, T.gf_12, T.gf_9, T.ib_25, T.ib_28, T.ib_3, T.ib_4, T.ii_22, T.ii_28, T.ii_3, T.ip_25, T.ip_28, T.ip_3, T.ip_4, T.s8_22, T.s8_28, T.s8_3, T.sl_22, T.sl_28, T.sl_3, T.st_22, T.st_28, T.st_3, T.un_22, T.un_28, T.un_3, init_a, q6])
  refine CodeH.seq (fun r H' => r 0 = s0 ∧ r 5 = .pointer (some ⟨p, 0, none⟩) ∧ H' = H ∧ ∃ a : Int, 0 ≤ a ∧ a < 2000 ∧ r 1 = .int .i64 a) (CodeH.of_vc [] hm (by kernel_rfl) ?_) fun r H' ⟨q0, q5, eH, a, ha0, ha1, q1⟩ => ?_
  · simp (config := { dsimp := false, maxSteps := 10000000 }) (disch := omega) only [go_sem, reduceIte, Nat.reduceEqDiff, reduceCtorEq, Nat.reduceAdd, Nat.reduceMul, Int.reduceToNat, Int.reduceLE, Int.reduceLT, Int.reduceEq, Int.reduceNe, Nat.reduceLeDiff, Int.reducePow, Nat.reducePow, Nat.reduceLT, Nat.reduceSub, Nat.reduceMod, Nat.reduceDiv, slot_neg, slot_pos, T.ag_3, T.es_22, T.gf_10, T.gf_11, T.gf_12, T.gf_9, T.ib_25, T.ib_28, T.ib_3, T.ib_4, T.ii_22, T.ii_28, T.ii_3, T.ip_25, T.ip_28, T.ip_3, T.ip_4, T.s8_22, T.s8_28, T.s8_3, T.sl_22, T.sl_28, T.sl_3, T.st_22, T.st_28, T.st_3, T.un_22, T.un_28, T.un_3, q0, q1, q5]
    obtain ⟨k, hk1, hk2⟩ := modm x1 2000 (by omega)
    exact ⟨k, by omega, hk1, by rw [hk2]⟩
  subst eH
  obtain ⟨n, hn⟩ : ∃ n, min l0.length 60 = n := ⟨_, rfl⟩
  have hgpi : ∀ d ∈ [p, id], d ∈ ([] : List Nat) ∨ h.next ≤ d := fun d hd => by
    right
    simp at hd
    rcases hd with rfl | rfl
    · exact hp
    · exact hid
  obtain ⟨A, st, hv0⟩ := hr0.form
  refine CodeH.seq (fun r H => ∃ c, TI (keepK l0) n c ∧ CaR isIntV H p id c ∧ c.now ≤ n ∧ r 0 = s0 ∧ r 1 = .int .i64 a ∧ r 5 = .pointer (some ⟨p, 0, none⟩) ∧ Upd h H []) (CodeH.of_vc [] hm (by kernel_rfl) ?_) ?_
  · simp (config := { dsimp := false, maxSteps := 10000000 }) (disch := omega) only [go_sem, reduceIte, Nat.reduceEqDiff, reduceCtorEq, Nat.reduceAdd, Nat.reduceMul, Int.reduceToNat, Int.reduceLE, Int.reduceLT, Int.reduceEq, Int.reduceNe, Nat.reduceLeDiff, Int.reducePow, Nat.reducePow, Nat.reduceLT, Nat.reduceSub, Nat.reduceMod, Nat.reduceDiv, slot_neg, slot_pos, T.ag_3, T.es_22, T.gf_10, T.gf_11, T.gf_12, T.gf_9, T.ib_25, T.ib_28, T.ib_3, T.ib_4, T.ii_22, T.ii_28, T.ii_3, T.ip_25, T.ip_28, T.ip_3, T.ip_4, T.s8_22, T.s8_28, T.s8_3, T.sl_22, T.sl_28, T.sl_3, T.st_22, T.st_28, T.st_3, T.un_22, T.un_28, T.un_3]
    refine loop_intro [] hm (fun r H => ∃ (i : Nat) (c : Ca), i ≤ n ∧ TI (keepK l0) i c ∧ CaR isIntV H p id c ∧ c.now ≤ i ∧ r 0 = s0 ∧ r 1 = .int .i64 a ∧ r 5 = .pointer (some ⟨p, 0, none⟩) ∧ r 7 = .int .i64 (i : Nat) ∧ Upd h H []) (fun r _ => match r 7 with | .int _ i => 60 - i.toNat | _ => 0) ?_ ?_
    · exact ⟨0, _, by omega, TI.start _, hC, by simp, by simp [upd, q0], by simp [upd, q1], by simp [upd, q5], by simp [upd], hU⟩
    · rintro r H ⟨i, c, hi, hT, hC, hnow, q0, q1, q5, q7, hU⟩
      by_cases hil : i < n
      · have c1 : ((i : Int) < (l0.length : Int)) = True := eq_true (by omega)
        have c2 : ((i : Int) < 60) = True := eq_true (by omega)
        obtain ⟨q, off, vs, o, hv, hq, hx, hb⟩ := row_at (hr0.upd (h' := H) fun A n st e => hU.2 _ (hlt0 A n st e) (by simp)) (i := i) (by omega)
        have hb2 : off + i < vs.length := by omega
        have w1 : IntKind.i64.wrap ((i : Int) * i) = ((i * i : Nat) : Int) := by
          have : i * i ≤ 60 * 60 := Nat.mul_le_mul (by omega) (by omega)
          rw [i64wrap] <;> omega
        have w2 : IntKind.i64.wrap ((i : Int) + 1) = ((i + 1 : Nat) : Int) := by rw [i64wrap] <;> omega
        have hK : IntKind.i64.wrap ((IntKind.u64.wrap l0[i]).tmod 1000) = keepK l0 i := by
          unfold keepK; rw [List.getElem?_eq_getElem (by omega), Option.getD_some]
        rw [hv] at q0
        simp (config := { dsimp := false, maxSteps := 10000000 }) (disch := omega) only [go_sem, reduceIte, Nat.reduceEqDiff, reduceCtorEq, Nat.reduceAdd, Nat.reduceMul, Int.reduceToNat, Int.reduceLE, Int.reduceLT, Int.reduceEq, Int.reduceNe, Nat.reduceLeDiff, Int.reducePow, Nat.reducePow, Nat.reduceLT, Nat.reduceSub, Nat.reduceMod, Nat.reduceDiv, slot_neg, slot_pos, T.ag_3, T.es_22, T.gf_10, T.gf_11, T.gf_12, T.gf_9, T.ib_25, T.ib_28, T.ib_3, T.ib_4, T.ii_22, T.ii_28, T.ii_3, T.ip_25, T.ip_28, T.ip_3, T.ip_4, T.s8_22, T.s8_28, T.s8_3, T.sl_22, T.sl_28, T.sl_3, T.st_22, T.st_28, T.st_3, T.un_22, T.un_28, T.un_3, q0, q1, q5, q7, c1, c2, hq, hx, w1, hK]
        refine (PutI_ph H p id c _ _ (keepK l0 i) i ⟨_, rfl⟩ ⟨_, rfl⟩ hC hT.ok (keepK_ok l0 i).1 (by have := keepK_ok l0 i; unfold farC; omega) (by omega) (by unfold farC; omega) (by have := hT.puts; omega) ⟨rfl, rfl⟩).mono fun u H2 ⟨hu, ⟨b, hC2⟩, hU2⟩ => ?_
        subst hu
        have hT2 := hT.put (by omega) (keepK_ok l0 i) hnow b ⟨rfl, rfl⟩
        simp (config := { dsimp := false, maxSteps := 10000000 }) (disch := omega) only [go_sem, reduceIte, Nat.reduceEqDiff, reduceCtorEq, Nat.reduceAdd, Nat.reduceMul, Int.reduceToNat, Int.reduceLE, Int.reduceLT, Int.reduceEq, Int.reduceNe, Nat.reduceLeDiff, Int.reducePow, Nat.reducePow, Nat.reduceLT, Nat.reduceSub, Nat.reduceMod, Nat.reduceDiv, slot_neg, slot_pos, T.ag_3, T.es_22, T.gf_10, T.gf_11, T.gf_12, T.gf_9, T.ib_25, T.ib_28, T.ib_3, T.ib_4, T.ii_22, T.ii_28, T.ii_3, T.ip_25, T.ip_28, T.ip_3, T.ip_4, T.s8_22, T.s8_28, T.s8_3, T.sl_22, T.sl_28, T.sl_3, T.st_22, T.st_28, T.st_3, T.un_22, T.un_28, T.un_3, q0, q1, q5, q7, w2]
        exact ⟨⟨i + 1, _, by omega, hT2.1, hC2, by rw [hT2.2]; omega, hv.symm, rfl, hU.trans hU2 hgpi⟩, by omega⟩
      · obtain rfl : i = n := by omega
        rw [hv0] at q0
        have c1 : ((i : Int) < (l0.length : Int) ∧ (i : Int) < 60) = False := eq_false (by omega)
        by_cases c2 : ((i : Int) < (l0.length : Int))
        · have c3 : ((i : Int) < 60) = False := eq_false (by omega)
          simp (config := { dsimp := false, maxSteps := 10000000 }) (disch := omega) only [go_sem, reduceIte, Nat.reduceEqDiff, reduceCtorEq, Nat.reduceAdd, Nat.reduceMul, Int.reduceToNat, Int.reduceLE, Int.reduceLT, Int.reduceEq, Int.reduceNe, Nat.reduceLeDiff, Int.reducePow, Nat.reducePow, Nat.reduceLT, Nat.reduceSub, Nat.reduceMod, Nat.reduceDiv, slot_neg, slot_pos, T.ag_3, T.es_22, T.gf_10, T.gf_11, T.gf_12, T.gf_9, T.ib_25, T.ib_28, T.ib_3, T.ib_4, T.ii_22, T.ii_28, T.ii_3, T.ip_25, T.ip_28, T.ip_3, T.ip_4, T.s8_22, T.s8_28, T.s8_3, T.sl_22, T.sl_28, T.sl_3, T.st_22, T.st_28, T.st_3, T.un_22, T.un_28, T.un_3, q0, q1, q5, q7, c2, c3]
          exact ⟨c, hT, hC, hnow, hv0.symm, hU⟩
        · simp (config := { dsimp := false, maxSteps := 10000000 }) (disch := omega) only [go_sem, reduceIte, Nat.reduceEqDiff, reduceCtorEq, Nat.reduceAdd, Nat.reduceMul, Int.reduceToNat, Int.reduceLE, Int.reduceLT, Int.reduceEq, Int.reduceNe, Nat.reduceLeDiff, Int.reducePow, Nat.reducePow, Nat.reduceLT, Nat.reduceSub, Nat.reduceMod, Nat.reduceDiv, slot_neg, slot_pos, T.ag_3, T.es_22, T.gf_10, T.gf_11, T.gf_12, T.gf_9, T.ib_25, T.ib_28, T.ib_3, T.ib_4, T.ii_22, T.ii_28, T.ii_3, T.ip_25, T.ip_28, T.ip_3, T.ip_4, T.s8_22, T.s8_28, T.s8_3, T.sl_22, T.sl_28, T.sl_3, T.st_22, T.st_28, T.st_3, T.un_22, T.un_28, T.un_3, q0, q1, q5, q7, c2]
          exact ⟨c, hT, hC, hnow, hv0.symm, hU⟩
  rintro r H ⟨c, hT, hC, hnow, q0, q1, q5, hU⟩
  obtain ⟨now, hnw⟩ : ∃ now : Nat, max a n = (now : Int) := ⟨(max a n).toNat, by omega⟩
  refine CodeH.seq (fun r H' => H' = H ∧ r 0 = s0 ∧ r 5 = .pointer (some ⟨p, 0, none⟩) ∧ r 8 = .int .i64 now) (CodeH.of_vc [] hm (by kernel_rfl) ?_) fun r H' ⟨eH, q0, q5, q8⟩ => ?_
  · rw [hv0] at q0
    simp (config := { dsimp := false, maxSteps := 10000000 }) (disch := omega) only [go_sem, reduceIte, Nat.reduceEqDiff, reduceCtorEq, Nat.reduceAdd, Nat.reduceMul, Int.reduceToNat, Int.reduceLE, Int.reduceLT, Int.reduceEq, Int.reduceNe, Nat.reduceLeDiff, Int.reducePow, Nat.reducePow, Nat.reduceLT, Nat.reduceSub, Nat.reduceMod, Nat.reduceDiv, slot_neg, slot_pos, T.ag_3, T.es_22, T.gf_10, T.gf_11, T.gf_12, T.gf_9, T.ib_25, T.ib_28, T.ib_3, T.ib_4, T.ii_22, T.ii_28, T.ii_3, T.ip_25, T.ip_28, T.ip_3, T.ip_4, T.s8_22, T.s8_28, T.s8_3, T.sl_22, T.sl_28, T.sl_3, T.st_22, T.st_28, T.st_3, T.un_22, T.un_28, T.un_3, q0, q1, q5]
    exact ⟨hv0.symm, by congr 1; omega⟩
  subst eH
  refine CodeH.seq (fun r H => True) (CodeH.of_vc [] hm (by kernel_rfl) ?_) fun r H _ => ?_
  · simp (config := { dsimp := false, maxSteps := 10000000 }) (disch := omega) only [go_sem, reduceIte, Nat.reduceEqDiff, reduceCtorEq, Nat.reduceAdd, Nat.reduceMul, Int.reduceToNat, Int.reduceLE, Int.reduceLT, Int.reduceEq, Int.reduceNe, Nat.reduceLeDiff, Int.reducePow, Nat.reducePow, Nat.reduceLT, Nat.reduceSub, Nat.reduceMod, Nat.reduceDiv, slot_neg, slot_pos, T.ag_3, T.es_22, T.gf_10, T.gf_11, T.gf_12, T.gf_9, T.ib_25, T.ib_28, T.ib_3, T.ib_4, T.ii_22, T.ii_28, T.ii_3, T.ip_25, T.ip_28, T.ip_3, T.ip_4, T.s8_22, T.s8_28, T.s8_3, T.sl_22, T.sl_28, T.sl_3, T.st_22, T.st_28, T.st_3, T.un_22, T.un_28, T.un_3]
    refine loop_intro [] hm (fun r H => ∃ (i : Nat) (c : Ca), i ≤ n ∧ TI (keepK l0) n c ∧ CaR isIntV H p id c ∧ c.now ≤ now ∧ r 0 = s0 ∧ r 5 = .pointer (some ⟨p, 0, none⟩) ∧ r 8 = .int .i64 now ∧ r 9 = .int .i64 (i : Nat) ∧ Upd h H []) (fun r _ => match r 9 with | .int _ i => 60 - i.toNat | _ => 0) ?_ ?_
    · exact ⟨0, c, by omega, hT, hC, by omega, by simp [upd, q0], by simp [upd, q5], by simp [upd, q8], by simp [upd], hU⟩
    · rintro r H ⟨i, c, hi, hT, hC, hnow, q0, q5, q8, q9, hU⟩
      by_cases hil : i < n
      · have c1 : ((i : Int) < (l0.length : Int)) = True := eq_true (by omega)
        have c2 : ((i : Int) < 60) = True := eq_true (by omega)
        obtain ⟨q, off, vs, o, hv, hq, hx, hb⟩ := row_at (hr0.upd (h' := H) fun A n st e => hU.2 _ (hlt0 A n st e) (by simp)) (i := i) (by omega)
        have hb2 : off + i < vs.length := by omega
        have w1 : IntKind.i64.wrap ((i : Int) * i) = ((i * i : Nat) : Int) := by
          have : i * i ≤ 60 * 60 := Nat.mul_le_mul (by omega) (by omega)
          rw [i64wrap] <;> omega
        have w2 : IntKind.i64.wrap ((i : Int) + 1) = ((i + 1 : Nat) : Int) := by rw [i64wrap] <;> omega
        have hK : IntKind.i64.wrap ((IntKind.u64.wrap l0[i]).tmod 1000) = keepK l0 i := by
          unfold keepK; rw [List.getElem?_eq_getElem (by omega), Option.getD_some]
        have hKo := keepK_ok l0 i
        have w3 : IntKind.i64.wrap ((i : Int) + keepK l0 i) = i + keepK l0 i := i64wrap (by omega) (by omega)
        have w4 : IntKind.i64.wrap (i + keepK l0 i - now) = i + keepK l0 i - now := i64wrap (by omega) (by omega)
        have hnow2 : (timeC c now).now = now := by show nowC c now = now; unfold nowC farC; omega
        have hT2 := hT.time now
        rw [hv] at q0
        simp (config := { dsimp := false, maxSteps := 10000000 }) (disch := omega) only [go_sem, reduceIte, Nat.reduceEqDiff, reduceCtorEq, Nat.reduceAdd, Nat.reduceMul, Int.reduceToNat, Int.reduceLE, Int.reduceLT, Int.reduceEq, Int.reduceNe, Nat.reduceLeDiff, Int.reducePow, Nat.reducePow, Nat.reduceLT, Nat.reduceSub, Nat.reduceMod, Nat.reduceDiv, slot_neg, slot_pos, T.ag_3, T.es_22, T.gf_10, T.gf_11, T.gf_12, T.gf_9, T.ib_25, T.ib_28, T.ib_3, T.ib_4, T.ii_22, T.ii_28, T.ii_3, T.ip_25, T.ip_28, T.ip_3, T.ip_4, T.s8_22, T.s8_28, T.s8_3, T.sl_22, T.sl_28, T.sl_3, T.st_22, T.st_28, T.st_3, T.un_22, T.un_28, T.un_3, q0, q5, q8, q9, c1, c2, hq, hx, hK, w3]
        refine (GetI_ph H p id c now _ ⟨_, rfl⟩ hC).mono fun u H2 ⟨hC2, hU2, hr⟩ => ?_
        have hU3 := hU.trans hU2 hgpi
        rcases hr with ⟨x, hxl, hk, hu⟩ | ⟨hno, hu⟩
        · have h3 := hT2.goes hxl hk
          have h4 := (List.mem_filter.1 hxl).2
          have h5 : ¬ x.goes ≤ nowC c now := by simpa using h4
          have h6 : nowC c now = now := hnow2
          rw [h6] at h5
          have c3 : ((now : Int) < i + keepK l0 i) = True := eq_true (by omega)
          rw [hnow2, h3.1, h3.2, w4] at hu
          subst hu
          simp (config := { dsimp := false, maxSteps := 10000000 }) (disch := omega) only [go_sem, reduceIte, Nat.reduceEqDiff, reduceCtorEq, Nat.reduceAdd, Nat.reduceMul, Int.reduceToNat, Int.reduceLE, Int.reduceLT, Int.reduceEq, Int.reduceNe, Nat.reduceLeDiff, Int.reducePow, Nat.reducePow, Nat.reduceLT, Nat.reduceSub, Nat.reduceMod, Nat.reduceDiv, slot_neg, slot_pos, T.ag_3, T.es_22, T.gf_10, T.gf_11, T.gf_12, T.gf_9, T.ib_25, T.ib_28, T.ib_3, T.ib_4, T.ii_22, T.ii_28, T.ii_3, T.ip_25, T.ip_28, T.ip_3, T.ip_4, T.s8_22, T.s8_28, T.s8_3, T.sl_22, T.sl_28, T.sl_3, T.st_22, T.st_28, T.st_3, T.un_22, T.un_28, T.un_3, q0, q5, q8, q9, w1, w2, w4, c3, nb1, nb2]
          exact ⟨⟨i + 1, _, by omega, hT2, hC2, by omega, hv.symm, rfl, hU3⟩, by omega⟩
        · have c3 : ((now : Int) < i + keepK l0 i) = False := eq_false fun hlt => by
            obtain ⟨x, hxl, hk⟩ := hT2.has i hil (by rw [hnow2]; exact hlt)
            exact hno x hxl hk
          subst hu
          simp (config := { dsimp := false, maxSteps := 10000000 }) (disch := omega) only [go_sem, reduceIte, Nat.reduceEqDiff, reduceCtorEq, Nat.reduceAdd, Nat.reduceMul, Int.reduceToNat, Int.reduceLE, Int.reduceLT, Int.reduceEq, Int.reduceNe, Nat.reduceLeDiff, Int.reducePow, Nat.reducePow, Nat.reduceLT, Nat.reduceSub, Nat.reduceMod, Nat.reduceDiv, slot_neg, slot_pos, T.ag_3, T.es_22, T.gf_10, T.gf_11, T.gf_12, T.gf_9, T.ib_25, T.ib_28, T.ib_3, T.ib_4, T.ii_22, T.ii_28, T.ii_3, T.ip_25, T.ip_28, T.ip_3, T.ip_4, T.s8_22, T.s8_28, T.s8_3, T.sl_22, T.sl_28, T.sl_3, T.st_22, T.st_28, T.st_3, T.un_22, T.un_28, T.un_3, q0, q5, q8, q9, w1, w2, w4, c3, nb1, nb2]
          exact ⟨⟨i + 1, _, by omega, hT2, hC2, by omega, hv.symm, rfl, hU3⟩, by omega⟩
      · obtain rfl : i = n := by omega
        rw [hv0] at q0
        by_cases c2 : ((i : Int) < (l0.length : Int))
        · have c3 : ((i : Int) < 60) = False := eq_false (by omega)
          simp (config := { dsimp := false, maxSteps := 10000000 }) (disch := omega) only [go_sem, reduceIte, Nat.reduceEqDiff, reduceCtorEq, Nat.reduceAdd, Nat.reduceMul, Int.reduceToNat, Int.reduceLE, Int.reduceLT, Int.reduceEq, Int.reduceNe, Nat.reduceLeDiff, Int.reducePow, Nat.reducePow, Nat.reduceLT, Nat.reduceSub, Nat.reduceMod, Nat.reduceDiv, slot_neg, slot_pos, T.ag_3, T.es_22, T.gf_10, T.gf_11, T.gf_12, T.gf_9, T.ib_25, T.ib_28, T.ib_3, T.ib_4, T.ii_22, T.ii_28, T.ii_3, T.ip_25, T.ip_28, T.ip_3, T.ip_4, T.s8_22, T.s8_28, T.s8_3, T.sl_22, T.sl_28, T.sl_3, T.st_22, T.st_28, T.st_3, T.un_22, T.un_28, T.un_3, q0, q5, q8, q9, c2, c3]
        · simp (config := { dsimp := false, maxSteps := 10000000 }) (disch := omega) only [go_sem, reduceIte, Nat.reduceEqDiff, reduceCtorEq, Nat.reduceAdd, Nat.reduceMul, Int.reduceToNat, Int.reduceLE, Int.reduceLT, Int.reduceEq, Int.reduceNe, Nat.reduceLeDiff, Int.reducePow, Nat.reducePow, Nat.reduceLT, Nat.reduceSub, Nat.reduceMod, Nat.reduceDiv, slot_neg, slot_pos, T.ag_3, T.es_22, T.gf_10, T.gf_11, T.gf_12, T.gf_9, T.ib_25, T.ib_28, T.ib_3, T.ib_4, T.ii_22, T.ii_28, T.ii_3, T.ip_25, T.ip_28, T.ip_3, T.ip_4, T.s8_22, T.s8_28, T.s8_3, T.sl_22, T.sl_28, T.sl_3, T.st_22, T.st_28, T.st_3, T.un_22, T.un_28, T.un_3, q0, q5, q8, q9, c2]
  (refine CodeH.of_vc [] hm (by kernel_rfl) ?_; simp (config := { dsimp := false, maxSteps := 10000000 }) (disch := omega) only [go_sem, reduceIte, Nat.reduceEqDiff, reduceCtorEq, Nat.reduceAdd, Nat.reduceMul, Int.reduceToNat, Int.reduceLE, Int.reduceLT, Int.reduceEq, Int.reduceNe, Nat.reduceLeDiff, Int.reducePow, Nat.reducePow, Nat.reduceLT, Nat.reduceSub, Nat.reduceMod, Nat.reduceDiv, slot_neg, slot_pos, T.ag_3, T.es_22, T.gf_10, T.gf_11, T.gf_12, T.gf_9, T.ib_25, T.ib_28, T.ib_3, T.ib_4, T.ii_22, T.ii_28, T.ii_3, T.ip_25, T.ip_28, T.ip_3, T.ip_4, T.s8_22, T.s8_28, T.s8_3, T.sl_22, T.sl_28, T.sl_3, T.st_22, T.st_28, T.st_3, T.un_22, T.un_28, T.un_3, init_a])
end Ph
