import Derived.Test.YtcbgjjbbeeoekaaDoorM8
set_option maxRecDepth 100000
set_option maxHeartbeats 4000000
set_option linter.unusedSimpArgs false
set_option linter.unusedVariables false
namespace Ph
open Go Go.Proofs
attribute [local irreducible] Value.cells
attribute [local go_sem ↓] y_move y_assign y_pick y_nil y_bin y_un y_fa y_field y_ext y_ia y_ix y_slice y_build y_mf y_rg y_nx y_en y_mm y_lk y_mu y_del y_load y_len y_cap y_min y_max y_conv y_bs y_mk y_alloc y_box y_store y_clear y_app y_callf y_callt s_move s_assign s_pick s_nil s_bin s_un s_fa s_field s_ext s_ia s_ix s_slice s_conv s_build s_bs s_mf s_alloc s_box s_rg s_nx s_en s_mm s_lk s_mu s_del s_load s_store s_len s_clear s_cap s_min s_max s_app s_call q_call q_move q_assign q_pick q_nil q_bin q_un q_fa q_field q_ext q_ia q_ix q_slice q_conv q_build q_mf q_lk q_load q_len q_cap q_min q_max l_nil l_move l_assign l_pick l_nilc l_bin l_un l_fa l_field l_ext l_ia l_ix l_slice l_conv l_build l_mf l_lk l_load l_len l_cap l_min l_max l_call put_eq putN_eq o_nil o_plain o_gate v_nil v_plain v_gate vc_skip vc_region vc_seq vc_cond vc_block vc_loop vc_rf vc_exit vc_ret blk_normal blk_ret blk_exit on_normal on_ret on_exit vc_drawn draw_q s_mk l_bs l_mk l_rg l_nx l_en l_mm l_mu l_del l_alloc l_box l_store l_app l_clear pl_done pl_takeS pl_take pl_alt pl_stop one_plain one_gate
attribute [local go_sem] clear_nil clear_sl onAgg_a onTuple_t onFn_f onFn_y onFunc_f c_int c_nil c_sl c_str sl_sl sl_nil sl_str ix_str ix_agg n_nil n_sl n_str app_eq app_eqZ k_nil k_sl cap_n len_sl len_str len_mn len_m onMap_m onIter_i rg_n rg_m nx_p en_p lk_n lk_m up_m setM_n setM_s del_n del_m kt_s kt_i upd_some upd_none ev_tmp ev_const ev_func rd_some gdst_eq otmp_t otmp_c get_put get_alloc next_put next_alloc get_app next_app init_a resV1 resV2 onPtr_ptr onBool_b onInt_i onSlice_s onSome_s onCells_c lett_eq gate_tt gate_tf gate_ff gate_ft gate_dt gate_df also_eq bin un minmax io_none io_some bo_none bo_some partOf List.getElem?_cons_zero List.getElem?_cons_succ List.getElem?_toArray Option.map_some Option.map_none Option.bind_some ne_eq not_true_eq_false not_false_eq_true false_implies true_implies and_true true_and and_self Bool.false_eq_true Nat.zero_add Nat.add_zero List.size_toArray List.length_cons List.length_nil List.map_toArray List.map_cons List.map_nil Array.getD_eq_getD_getElem? Option.getD_some Bool.not_true Bool.not_false Bool.not_eq_true Option.isNone_some Option.isNone_none List.append_toArray List.append_nil List.nil_append List.cons_append decide_true decide_false in_nil in_cons Bool.and_false Bool.and_true Bool.or_false Bool.true_or Bool.false_or get_mask next_mask get_unmask next_unmask ac_move ac_assign ac_pick ac_nil ac_bin ac_un ac_fa ac_field ac_ext ac_ia ac_ix ac_slice ac_build ac_mf ac_call ac_len ac_lk ac_cap ac_min ac_max accM_m accM_n accM_s accM_t ac_load ac_conv accP_p accS_s accS_n accS_i accS_t fixed_ro fixed_lock fixed_own get_ro next_ro lock_live' lock_cells List.mem_cons List.not_mem_nil or_false false_or or_true true_or and_false false_and IntKind.bits Int.natCast_zero Int.natCast_one size_str data_str list_str mk_str ext_str app_str bytes_str w_byte w_byteu Int.toNat_natCast Int.toNat_zero Int.toNat_one Nat.sub_zero ge_iff_le gt_iff_lt Nat.le_refl Int.le_refl List.drop_zero Int.ofNat_eq_natCast Int.natCast_nonneg Int.sub_zero oc_int oc_bool oc_str oc_ptr oc_sl oc_map oc_func List.set_cons_zero List.set_cons_succ Nat.mul_one List.all_cons List.all_nil Bool.and_self res_nil res_tmp res_cell tup_one tup_two tup_nil fill_nil repl_zero cells_agg List.append_eq List.toList_toArray Nat.zero_mul Nat.one_mul repl_one repl_two onSome_build fill_cons onSome_lit splice_eq cells_int cells_bool cells_str cells_ptr cells_sl cells_map cells_func loadK_n loadK_s load_k storeK_n storeK_s store_k all_arr List.take_zero List.take_succ_cons List.drop_succ_cons List.take_nil List.drop_nil lk_own lk_ro lk_lock lk_lk fixed_lk gate_nt gate_nf gate3_b gate3_u undef Bool.true_and Bool.false_and nx_l nx_r nx_lt put_put resV0
attribute [local go_sem] str_inj size_str
/-! A message's bytes: the program's Put. -/
theorem err_ok {m : MsgV} (h : m.err = 0) : m.ask.length + m.all.length ≤ 300 ∧ (0 ≤ m.id ∧ m.id ≤ 65535) ∧ (0 ≤ m.kind ∧ m.kind ≤ 15) ∧ (0 ≤ m.code ∧ m.code ≤ 15) ∧ m.ask.all qOk = true ∧ m.all.all recOk = true := by
  unfold MsgV.err at h
  split at h
  · cases h
  · rename_i h1
    split at h
    · rename_i h2
      obtain ⟨a, b, c⟩ := h2
      unfold MsgV.numsOk at a
      simp only [Bool.and_eq_true, decide_eq_true_eq] at a
      exact ⟨by omega, a.1, a.2.1, a.2.2, b, c⟩
    · cases h
theorem flags_or {k : Int} (hk : 0 ≤ k ∧ k ≤ 15) (a o c w : Bool) : IntKind.i64.wrap ((BitVec.ofInt IntKind.i64.bits (IntKind.i64.wrap ((BitVec.ofInt IntKind.i64.bits (IntKind.i64.wrap ((BitVec.ofInt IntKind.i64.bits (IntKind.i64.wrap ((BitVec.ofInt IntKind.i64.bits (bitS a 128) ||| BitVec.ofInt IntKind.i64.bits (IntKind.i64.wrap (k * 2 ^ min 3 64))).toNat : Int)) ||| BitVec.ofInt IntKind.i64.bits (bitS o 4)).toNat : Int)) ||| BitVec.ofInt IntKind.i64.bits (bitS c 2)).toNat : Int)) ||| BitVec.ofInt IntKind.i64.bits (bitS w 1)).toNat : Int) = bitS a 128 + 8 * k + bitS o 4 + bitS c 2 + bitS w 1 := by
  have key : ∀ k : Fin 16, ∀ a o c w : Bool, IntKind.i64.wrap ((BitVec.ofInt IntKind.i64.bits (IntKind.i64.wrap ((BitVec.ofInt IntKind.i64.bits (IntKind.i64.wrap ((BitVec.ofInt IntKind.i64.bits (IntKind.i64.wrap ((BitVec.ofInt IntKind.i64.bits (bitS a 128) ||| BitVec.ofInt IntKind.i64.bits (IntKind.i64.wrap ((k.val : Int) * 2 ^ min 3 64))).toNat : Int)) ||| BitVec.ofInt IntKind.i64.bits (bitS o 4)).toNat : Int)) ||| BitVec.ofInt IntKind.i64.bits (bitS c 2)).toNat : Int)) ||| BitVec.ofInt IntKind.i64.bits (bitS w 1)).toNat : Int) = bitS a 128 + 8 * (k.val : Int) + bitS o 4 + bitS c 2 + bitS w 1 := by decide +kernel
  have := key ⟨k.toNat, by omega⟩ a o c w
  simpa [Int.toNat_of_nonneg hk.1] using this
theorem code_or {k : Int} (hk : 0 ≤ k ∧ k ≤ 15) (a : Bool) : IntKind.i64.wrap ((BitVec.ofInt IntKind.i64.bits (bitS a 128) ||| BitVec.ofInt IntKind.i64.bits k).toNat : Int) = bitS a 128 + k := by
  have key : ∀ k : Fin 16, ∀ a : Bool, IntKind.i64.wrap ((BitVec.ofInt IntKind.i64.bits (bitS a 128) ||| BitVec.ofInt IntKind.i64.bits (k.val : Int)).toNat : Int) = bitS a 128 + (k.val : Int) := by decide +kernel
  have := key ⟨k.toNat, by omega⟩ a
  simpa [Int.toNat_of_nonneg hk.1] using this
def PutR (h : Heap) (m : MsgV) (u : Value) (H : Heap) : Prop := Upd h H [] ∧ (m.put.2 = 0 → ∃ v D, u = .tuple #[v, .int .i64 0] ∧ OwnRow u8E H v D m.put.1 ∧ ∀ d ∈ D, h.next ≤ d) ∧ (m.put.2 ≠ 0 → u = .tuple #[.slice none 0 0, .int .i64 m.put.2])
theorem put_err {m : MsgV} (h : m.err ≠ 0) : m.put = ([], m.err) := by unfold MsgV.put; rw [if_pos h]
def MsgV.blk (m : MsgV) (sa s1 s2 s3 : Value) : Slot := .live (.cells [.int .i64 m.id, .bool m.ans, .int .i64 m.kind, .bool m.own, .bool m.cut, .bool m.wanted, .bool m.able, .int .i64 m.code, sa, s1, s2, s3] .own)
/-- where Put stands: what is in bytes so far -/
def PS (h H : Heap) (sl : Slot) (b : List UInt8) (r : Regs) : Prop := ∃ v D, r 5 = v ∧ r 1 = .pointer (some ⟨h.next, 0, none⟩) ∧ OwnRow u8E H v D b ∧ (∀ d ∈ D, h.next < d) ∧ Upd h H [] ∧ H.get h.next = sl ∧ h.next < H.next
theorem ps_un {h H2 H3 : Heap} {sl : Slot} {b : List UInt8} {u3 : Value} {D2 D3 : List Nat} (hO3 : OwnRow u8E H3 u3 D3 b) (hD3 : ∀ d ∈ D3, d ∈ D2 ∨ H2.next ≤ d) (hU2 : Upd h H2 []) (n : H2.next ≤ H3.next) (hD2 : ∀ d ∈ D2, h.next < d) (hg : H2.get h.next = sl) (hn : h.next < H2.next) :
    OwnRow u8E (H2.unmask D2 H3) u3 D3 b ∧ (∀ d ∈ D3, h.next < d) ∧ Upd h (H2.unmask D2 H3) [] ∧ (H2.unmask D2 H3).get h.next = sl ∧ h.next < (H2.unmask D2 H3).next := by
  refine ⟨hO3.unmaskW hD3, fun d hd => ?_, hU2.unmask n fun d hd => .inr (Nat.le_of_lt (hD2 d hd)), ?_, ?_⟩
  · rcases hD3 d hd with h9 | h9
    · exact hD2 d h9
    · omega
  · rw [get_unmask, if_pos ⟨hn, fun hh => by have := hD2 _ hh; omega⟩]; exact hg
  · rw [next_unmask]; omega
theorem ps_up {h H5 H6 : Heap} {sl : Slot} {D5 D6 : List Nat} (hD6 : ∀ d ∈ D6, d ∈ D5 ∨ H5.next ≤ d) (hU6 : Upd H5 H6 D5) (hD5 : ∀ d ∈ D5, h.next < d) (hU5 : Upd h H5 []) (hg5 : H5.get h.next = sl) (hn5 : h.next < H5.next) :
    (∀ d ∈ D6, h.next < d) ∧ Upd h H6 [] ∧ H6.get h.next = sl ∧ h.next < H6.next := by
  refine ⟨fun d hd => ?_, hU5.trans hU6 fun d hd => .inr (Nat.le_of_lt (hD5 d hd)), (hU6.2 h.next hn5 fun hh => by have := hD5 _ hh; omega).trans hg5, Nat.lt_of_lt_of_le hn5 hU6.1⟩
  rcases hD6 d hd with h9 | h9
  · exact hD5 d h9
  · omega
theorem putP_len : ∀ (ps : List (List UInt8)) (t : List (List UInt8 × Nat)) (b : List UInt8), b.length ≤ (putP t b ps).2.length ∧ (putP t b ps).2.length ≤ b.length + (wireP ps).length + 1 ∧ ((∀ x ∈ t, x.2 ≤ b.length) → ∀ x ∈ (putP t b ps).1, x.2 ≤ (putP t b ps).2.length)
  | [], t, b => by
    rw [putP]
    exact ⟨by simp, by simp [wireP], fun h x hx => by have := h x hx; simp; omega⟩
  | p :: ps, t, b => by
    have hw : (wireP (p :: ps)).length = 1 + p.length + (wireP ps).length := by rw [wireP_len, wireP_len]; simp; omega
    have hl : (b ++ [UInt8.ofNat p.length] ++ p).length = b.length + 1 + p.length := by simp; omega
    rw [putP]
    cases findP (Go.Lib.join (p :: ps) [46]) t with
    | some a =>
      dsimp only
      by_cases ha : a < 16384
      · rw [if_pos ha]
        exact ⟨by simp, by simp; omega, fun h x hx => by have := h x hx; simp; omega⟩
      · rw [if_neg ha]
        obtain ⟨h1, h2, h3⟩ := putP_len ps t (b ++ [UInt8.ofNat p.length] ++ p)
        exact ⟨by omega, by omega, fun h => h3 fun x hx => by have := h x hx; omega⟩
    | none =>
      dsimp only
      obtain ⟨h1, h2, h3⟩ := putP_len ps (t ++ [(Go.Lib.join (p :: ps) [46], b.length)]) (b ++ [UInt8.ofNat p.length] ++ p)
      refine ⟨by omega, by omega, fun h => h3 fun x hx => ?_⟩
      rcases List.mem_append.1 hx with h4 | h4
      · have := h x h4; omega
      · cases List.mem_singleton.1 h4; show b.length ≤ _; omega
/-- bytes that grow, and their table, beside the message's block -/
structure TB (h H : Heap) (sl : Slot) (pt : Nat) (M D : List Nat) (t : List (List UInt8 × Nat)) (v : Value) (b : List UInt8) : Prop where
  ob : OwnRow u8E H v D b
  tb : TabR H pt M t
  dD : ∀ d ∈ D, h.next < d ∧ d ≠ pt ∧ d ∉ M
  dM : ∀ d ∈ M, h.next < d
  hp : h.next < pt
  hU : Upd h H []
  hg : H.get h.next = sl
  hn : h.next < H.next
theorem TB.new {h H H' : Heap} {sl : Slot} {pt : Nat} {M D : List Nat} {t : List (List UInt8 × Nat)} {v : Value} {b : List UInt8} (hB : TB h H sl pt M D t v b) (hU : Upd H H' []) : TB h H' sl pt M D t v b :=
  ⟨hB.ob.upd hU (by simp), hB.tb.upd hU (by simp) (by simp), hB.dD, hB.dM, hB.hp, hB.hU.trans hU (by simp), (hU.2 _ hB.hn (by simp)).trans hB.hg, Nat.lt_of_lt_of_le hB.hn hU.1⟩
theorem TB.grow {h H H' : Heap} {sl : Slot} {pt : Nat} {M D D' : List Nat} {t : List (List UInt8 × Nat)} {v v' : Value} {b b' : List UInt8} (hB : TB h H sl pt M D t v b) (hO : OwnRow u8E H' v' D' b') (hD : ∀ d ∈ D', d ∈ D ∨ H.next ≤ d) (hU : Upd H H' D) : TB h H' sl pt M D' t v' b' := by
  have hl := hB.tb.lt
  have hp := hB.tb.1
  have hn := hB.hn
  refine ⟨hO, hB.tb.upd hU (fun hh => (hB.dD _ hh).2.1 rfl) (fun d hd hh => (hB.dD _ hh).2.2 hd), fun d hd => ?_, hB.dM, hB.hp, hB.hU.trans hU fun d hd => .inr (Nat.le_of_lt (hB.dD d hd).1), (hU.2 _ hB.hn fun hh => by have := (hB.dD _ hh).1; omega).trans hB.hg, Nat.lt_of_lt_of_le hB.hn hU.1⟩
  rcases hD d hd with h9 | h9
  · exact hB.dD d h9
  · exact ⟨by omega, by omega, fun hh => by have := hl d hh; omega⟩
theorem TB.put {h H H' : Heap} {sl : Slot} {pt : Nat} {M M' D D' : List Nat} {t t' : List (List UInt8 × Nat)} {v v' : Value} {b b' : List UInt8} (hB : TB h H sl pt M D t v b) (hT : TabR H' pt M' t') (hO : OwnRow u8E H' v' D' b') (hD : ∀ d ∈ D', (d ∈ D ∨ H.next ≤ d) ∧ d ∉ M') (hM : ∀ m ∈ M', m ∈ M ∨ H.next ≤ m) (hU : Upd H H' (pt :: M ++ D)) : TB h H' sl pt M' D' t' v' b' := by
  have hp := hB.tb.1
  have hn := hB.hn
  have hF : ∀ d ∈ pt :: M ++ D, h.next < d := fun d hd => by
    simp at hd
    rcases hd with h9 | h9 | h9
    · rw [h9]; exact hB.hp
    · exact hB.dM d h9
    · exact (hB.dD d h9).1
  refine ⟨hO, hT, fun d hd => ?_, fun d hd => ?_, hB.hp, hB.hU.trans hU fun d hd => .inr (Nat.le_of_lt (hF d hd)), (hU.2 _ hB.hn fun hh => by have := hF _ hh; omega).trans hB.hg, Nat.lt_of_lt_of_le hB.hn hU.1⟩
  · obtain ⟨h8, h7⟩ := hD d hd
    rcases h8 with h9 | h9
    · exact ⟨(hB.dD d h9).1, (hB.dD d h9).2.1, h7⟩
    · exact ⟨by omega, by omega, h7⟩
  · rcases hM d hd with h9 | h9
    · exact hB.dM d h9
    · omega
/-- where Put stands once it has its table -/
def QS (h H : Heap) (sl : Slot) (pt : Nat) (t : List (List UInt8 × Nat)) (b : List UInt8) (r : Regs) : Prop := ∃ v D M, r 5 = v ∧ r 1 = .pointer (some ⟨h.next, 0, none⟩) ∧ r 8 = .pointer (some ⟨pt, 0, none⟩) ∧ TB h H sl pt M D t v b ∧ ∀ x ∈ t, x.2 ≤ b.length
theorem msgPut_ph (h : Heap) (m : MsgV) (sa s1 s2 s3 : Value) (hM : MsgR h m sa s1 s2 s3) (hS : m.Sz) : @CallsH Tryd.prog 11 #[.agg (m.cells sa s1 s2 s3).toArray] h ⟨fun u H => PutR h m u H⟩ := by
  have oa := hM.ra.one
  have o1 := hM.r1.one
  have o2 := hM.r2.one
  have o3 := hM.r3.one
  show @CallsH _ _ #[.agg #[.int .i64 m.id, .bool m.ans, .int .i64 m.kind, .bool m.own, .bool m.cut, .bool m.wanted, .bool m.able, .int .i64 m.code, sa, s1, s2, s3]] h ⟨_⟩
  have hU0 : Upd h (h.alloc (.cells [.int .i64 m.id, .bool m.ans, .int .i64 m.kind, .bool m.own, .bool m.cut, .bool m.wanted, .bool m.able, .int .i64 m.code, sa, s1, s2, s3] .own)) [] := Upd.alloc _ _ _
  (refine calls_of_codeR (rs := [.tmp 2, .tmp 3]) Tryd.func11 rfl rfl (by simp) ?_)
  (refine CodeH.seq' (CodeH.of_vc [] hm (by kernel_rfl) ?_); simp (config := { dsimp := false, maxSteps := 10000000 }) (disch := omega) only [go_sem, reduceIte, Nat.reduceEqDiff, reduceCtorEq, Nat.reduceAdd, Nat.reduceMul, Int.reduceToNat, Int.reduceLE, Int.reduceLT, Int.reduceEq, Int.reduceNe, Nat.reduceLeDiff, Int.reducePow, Nat.reducePow, Nat.reduceLT, Nat.reduceSub, Nat.reduceMod, Nat.reduceDiv, slot_neg, slot_pos, T.ag_23, T.ag_3, T.ag_36, T.ag_37, T.ag_38, T.ag_4, T.ag_40, T.ag_9, T.ap_52, T.eb_32, T.eb_71, T.es_37, T.es_38, T.es_52, T.ez_32, T.ez_71, T.fo_23_0, T.fo_23_1, T.fo_23_2, T.fo_23_3, T.fo_36_0, T.fo_36_1, T.fo_40_0, T.fo_40_1, T.fo_40_10, T.fo_40_11, T.fo_40_2, T.fo_40_3, T.fo_40_4, T.fo_40_5, T.fo_40_6, T.fo_40_7, T.fo_40_8, T.fo_40_9, T.gf_19, T.gf_20, T.gf_21, T.gf_22, T.gf_23, T.ib_25, T.ib_3, T.ii_32, T.ii_37, T.ii_38, T.ii_52, T.ii_9, T.ip_25, T.ip_3, T.pl_52, T.pl_56, T.s8_32, T.s8_37, T.s8_38, T.s8_52, T.s8_9, T.sl_32, T.sl_37, T.sl_38, T.sl_52, T.sl_9, T.st_32, T.st_37, T.st_38, T.st_52, T.st_9, T.un_32, T.un_37, T.un_38, T.un_52, T.un_9, T.zo_23, T.zo_36, T.zo_52, T.zo_56, init_a, oa.1, oa.2, o1.1, o1.2, o2.1, o2.2, o3.1, o3.2])
  (refine CodeH.seq' (CodeH.of_vc [] hm (by kernel_rfl) ?_); simp (config := { dsimp := false, maxSteps := 10000000 }) (disch := omega) only [go_sem, reduceIte, Nat.reduceEqDiff, reduceCtorEq, Nat.reduceAdd, Nat.reduceMul, Int.reduceToNat, Int.reduceLE, Int.reduceLT, Int.reduceEq, Int.reduceNe, Nat.reduceLeDiff, Int.reducePow, Nat.reducePow, Nat.reduceLT, Nat.reduceSub, Nat.reduceMod, Nat.reduceDiv, slot_neg, slot_pos, T.ag_23, T.ag_3, T.ag_36, T.ag_37, T.ag_38, T.ag_4, T.ag_40, T.ag_9, T.ap_52, T.eb_32, T.eb_71, T.es_37, T.es_38, T.es_52, T.ez_32, T.ez_71, T.fo_23_0, T.fo_23_1, T.fo_23_2, T.fo_23_3, T.fo_36_0, T.fo_36_1, T.fo_40_0, T.fo_40_1, T.fo_40_10, T.fo_40_11, T.fo_40_2, T.fo_40_3, T.fo_40_4, T.fo_40_5, T.fo_40_6, T.fo_40_7, T.fo_40_8, T.fo_40_9, T.gf_19, T.gf_20, T.gf_21, T.gf_22, T.gf_23, T.ib_25, T.ib_3, T.ii_32, T.ii_37, T.ii_38, T.ii_52, T.ii_9, T.ip_25, T.ip_3, T.pl_52, T.pl_56, T.s8_32, T.s8_37, T.s8_38, T.s8_52, T.s8_9, T.sl_32, T.sl_37, T.sl_38, T.sl_52, T.sl_9, T.st_32, T.st_37, T.st_38, T.st_52, T.st_9, T.un_32, T.un_37, T.un_38, T.un_52, T.un_9, T.zo_23, T.zo_36, T.zo_52, T.zo_56, init_a, oa.1, oa.2, o1.1, o1.2, o2.1, o2.2, o3.1, o3.2])
  refine (msgCheck_ph _ m sa s1 s2 s3 (hM.upd hU0) hS).mono fun u H1 ⟨hu, hU1⟩ => ?_
  subst hu
  have hUU := hU0.trans hU1 (by simp)
  have hg1 : H1.get h.next = .live (.cells [.int .i64 m.id, .bool m.ans, .int .i64 m.kind, .bool m.own, .bool m.cut, .bool m.wanted, .bool m.able, .int .i64 m.code, sa, s1, s2, s3] .own) := (hU1.2 h.next (Nat.lt_succ_self _) (by simp)).trans (by rw [get_alloc]; exact if_pos rfl)
  by_cases he : m.err = 0
  · have c1 : (m.err = 0) = True := eq_true he
    obtain ⟨k1, k2, k3, k4, k5, k6⟩ := err_ok he
    simp (config := { dsimp := false, maxSteps := 10000000 }) (disch := omega) only [go_sem, reduceIte, Nat.reduceEqDiff, reduceCtorEq, Nat.reduceAdd, Nat.reduceMul, Int.reduceToNat, Int.reduceLE, Int.reduceLT, Int.reduceEq, Int.reduceNe, Nat.reduceLeDiff, Int.reducePow, Nat.reducePow, Nat.reduceLT, Nat.reduceSub, Nat.reduceMod, Nat.reduceDiv, slot_neg, slot_pos, T.ag_23, T.ag_3, T.ag_36, T.ag_37, T.ag_38, T.ag_4, T.ag_40, T.ag_9, T.ap_52, T.eb_32, T.eb_71, T.es_37, T.es_38, T.es_52, T.ez_32, T.ez_71, T.fo_23_0, T.fo_23_1, T.fo_23_2, T.fo_23_3, T.fo_36_0, T.fo_36_1, T.fo_40_0, T.fo_40_1, T.fo_40_10, T.fo_40_11, T.fo_40_2, T.fo_40_3, T.fo_40_4, T.fo_40_5, T.fo_40_6, T.fo_40_7, T.fo_40_8, T.fo_40_9, T.gf_19, T.gf_20, T.gf_21, T.gf_22, T.gf_23, T.ib_25, T.ib_3, T.ii_32, T.ii_37, T.ii_38, T.ii_52, T.ii_9, T.ip_25, T.ip_3, T.pl_52, T.pl_56, T.s8_32, T.s8_37, T.s8_38, T.s8_52, T.s8_9, T.sl_32, T.sl_37, T.sl_38, T.sl_52, T.sl_9, T.st_32, T.st_37, T.st_38, T.st_52, T.st_9, T.un_32, T.un_37, T.un_38, T.un_52, T.un_9, T.zo_23, T.zo_36, T.zo_52, T.zo_56, c1]
    (refine CodeH.seq' (CodeH.of_vc [] hm (by kernel_rfl) ?_); simp (config := { dsimp := false, maxSteps := 10000000 }) (disch := omega) only [go_sem, reduceIte, Nat.reduceEqDiff, reduceCtorEq, Nat.reduceAdd, Nat.reduceMul, Int.reduceToNat, Int.reduceLE, Int.reduceLT, Int.reduceEq, Int.reduceNe, Nat.reduceLeDiff, Int.reducePow, Nat.reducePow, Nat.reduceLT, Nat.reduceSub, Nat.reduceMod, Nat.reduceDiv, slot_neg, slot_pos, T.ag_23, T.ag_3, T.ag_36, T.ag_37, T.ag_38, T.ag_4, T.ag_40, T.ag_9, T.ap_52, T.eb_32, T.eb_71, T.es_37, T.es_38, T.es_52, T.ez_32, T.ez_71, T.fo_23_0, T.fo_23_1, T.fo_23_2, T.fo_23_3, T.fo_36_0, T.fo_36_1, T.fo_40_0, T.fo_40_1, T.fo_40_10, T.fo_40_11, T.fo_40_2, T.fo_40_3, T.fo_40_4, T.fo_40_5, T.fo_40_6, T.fo_40_7, T.fo_40_8, T.fo_40_9, T.gf_19, T.gf_20, T.gf_21, T.gf_22, T.gf_23, T.ib_25, T.ib_3, T.ii_32, T.ii_37, T.ii_38, T.ii_52, T.ii_9, T.ip_25, T.ip_3, T.pl_52, T.pl_56, T.s8_32, T.s8_37, T.s8_38, T.s8_52, T.s8_9, T.sl_32, T.sl_37, T.sl_38, T.sl_52, T.sl_9, T.st_32, T.st_37, T.st_38, T.st_52, T.st_9, T.un_32, T.un_37, T.un_38, T.un_52, T.un_9, T.zo_23, T.zo_36, T.zo_52, T.zo_56, init_a, hg1])
    refine (num_ph H1 (.slice none 0 0) [] [] m.id 2 (OwnRow.nil _) (by simp) (by omega)).mono fun u H2 ⟨D2, hO2, hD2, hU2⟩ => ?_
    have hou2 := hO2.row.one
    simp (config := { dsimp := false, maxSteps := 10000000 }) (disch := omega) only [go_sem, reduceIte, Nat.reduceEqDiff, reduceCtorEq, Nat.reduceAdd, Nat.reduceMul, Int.reduceToNat, Int.reduceLE, Int.reduceLT, Int.reduceEq, Int.reduceNe, Nat.reduceLeDiff, Int.reducePow, Nat.reducePow, Nat.reduceLT, Nat.reduceSub, Nat.reduceMod, Nat.reduceDiv, slot_neg, slot_pos, T.ag_23, T.ag_3, T.ag_36, T.ag_37, T.ag_38, T.ag_4, T.ag_40, T.ag_9, T.ap_52, T.eb_32, T.eb_71, T.es_37, T.es_38, T.es_52, T.ez_32, T.ez_71, T.fo_23_0, T.fo_23_1, T.fo_23_2, T.fo_23_3, T.fo_36_0, T.fo_36_1, T.fo_40_0, T.fo_40_1, T.fo_40_10, T.fo_40_11, T.fo_40_2, T.fo_40_3, T.fo_40_4, T.fo_40_5, T.fo_40_6, T.fo_40_7, T.fo_40_8, T.fo_40_9, T.gf_19, T.gf_20, T.gf_21, T.gf_22, T.gf_23, T.ib_25, T.ib_3, T.ii_32, T.ii_37, T.ii_38, T.ii_52, T.ii_9, T.ip_25, T.ip_3, T.pl_52, T.pl_56, T.s8_32, T.s8_37, T.s8_38, T.s8_52, T.s8_9, T.sl_32, T.sl_37, T.sl_38, T.sl_52, T.sl_9, T.st_32, T.st_37, T.st_38, T.st_52, T.st_9, T.un_32, T.un_37, T.un_38, T.un_52, T.un_9, T.zo_23, T.zo_36, T.zo_52, T.zo_56, hou2.1, hou2.2]
    have n1 : h.next + 1 ≤ H1.next := hU1.1
    have hg2 := (hU2.2 h.next (by omega) (by simp)).trans hg1
    have n2 := hU2.1
    have hUU2 := hUU.trans hU2 (by simp)
    have nD2 : (h.next ∈ D2) = False := eq_false fun hh => by
      rcases hD2 _ hh with h9 | h9
      · cases h9
      · omega
    rw [List.nil_append] at hO2
    refine CodeH.seq (fun r H => PS h H (m.blk sa s1 s2 s3) (numS m.id 2 ++ numS (bitS m.ans 128 + 8 * m.kind + bitS m.own 4 + bitS m.cut 2 + bitS m.wanted 1) 1) r) (CodeH.of_vc [5] hm (by kernel_rfl) ?_) ?_
    · simp (config := { dsimp := false, maxSteps := 10000000 }) (disch := omega) only [go_sem, reduceIte, Nat.reduceEqDiff, reduceCtorEq, Nat.reduceAdd, Nat.reduceMul, Int.reduceToNat, Int.reduceLE, Int.reduceLT, Int.reduceEq, Int.reduceNe, Nat.reduceLeDiff, Int.reducePow, Nat.reducePow, Nat.reduceLT, Nat.reduceSub, Nat.reduceMod, Nat.reduceDiv, slot_neg, slot_pos, T.ag_23, T.ag_3, T.ag_36, T.ag_37, T.ag_38, T.ag_4, T.ag_40, T.ag_9, T.ap_52, T.eb_32, T.eb_71, T.es_37, T.es_38, T.es_52, T.ez_32, T.ez_71, T.fo_23_0, T.fo_23_1, T.fo_23_2, T.fo_23_3, T.fo_36_0, T.fo_36_1, T.fo_40_0, T.fo_40_1, T.fo_40_10, T.fo_40_11, T.fo_40_2, T.fo_40_3, T.fo_40_4, T.fo_40_5, T.fo_40_6, T.fo_40_7, T.fo_40_8, T.fo_40_9, T.gf_19, T.gf_20, T.gf_21, T.gf_22, T.gf_23, T.ib_25, T.ib_3, T.ii_32, T.ii_37, T.ii_38, T.ii_52, T.ii_9, T.ip_25, T.ip_3, T.pl_52, T.pl_56, T.s8_32, T.s8_37, T.s8_38, T.s8_52, T.s8_9, T.sl_32, T.sl_37, T.sl_38, T.sl_52, T.sl_9, T.st_32, T.st_37, T.st_38, T.st_52, T.st_9, T.un_32, T.un_37, T.un_38, T.un_52, T.un_9, T.zo_23, T.zo_36, T.zo_52, T.zo_56]
      refine draw_plan D2 (.takeS 1 (.takeS 2 (.take 0 (.take 4 (.take 5 (.take 6 (.take 8 (.take 9 (.take 12 (.take 13 (.take 16 (.take 17 (.alt 3 (.take 7 (.alt 10 (.take 11 (.alt 14 (.take 15 (.alt 18 (.takeS 19 (.alt 20 (.takeS 21 .done) .stop)) .stop)) .stop)) .stop)) .stop))))))))))))) hm (by kernel_rfl) (by kernel_rfl) ?_
      simp (config := { dsimp := false, maxSteps := 10000000 }) (disch := omega) only [go_sem, reduceIte, Nat.reduceEqDiff, reduceCtorEq, Nat.reduceAdd, Nat.reduceMul, Int.reduceToNat, Int.reduceLE, Int.reduceLT, Int.reduceEq, Int.reduceNe, Nat.reduceLeDiff, Int.reducePow, Nat.reducePow, Nat.reduceLT, Nat.reduceSub, Nat.reduceMod, Nat.reduceDiv, slot_neg, slot_pos, T.ag_23, T.ag_3, T.ag_36, T.ag_37, T.ag_38, T.ag_4, T.ag_40, T.ag_9, T.ap_52, T.eb_32, T.eb_71, T.es_37, T.es_38, T.es_52, T.ez_32, T.ez_71, T.fo_23_0, T.fo_23_1, T.fo_23_2, T.fo_23_3, T.fo_36_0, T.fo_36_1, T.fo_40_0, T.fo_40_1, T.fo_40_10, T.fo_40_11, T.fo_40_2, T.fo_40_3, T.fo_40_4, T.fo_40_5, T.fo_40_6, T.fo_40_7, T.fo_40_8, T.fo_40_9, T.gf_19, T.gf_20, T.gf_21, T.gf_22, T.gf_23, T.ib_25, T.ib_3, T.ii_32, T.ii_37, T.ii_38, T.ii_52, T.ii_9, T.ip_25, T.ip_3, T.pl_52, T.pl_56, T.s8_32, T.s8_37, T.s8_38, T.s8_52, T.s8_9, T.sl_32, T.sl_37, T.sl_38, T.sl_52, T.sl_9, T.st_32, T.st_37, T.st_38, T.st_52, T.st_9, T.un_32, T.un_37, T.un_38, T.un_52, T.un_9, T.zo_23, T.zo_36, T.zo_52, T.zo_56, hg2, nD2, lock_live', lock_cells, lk_own]
      refine ⟨by omega, by omega, by omega, by omega, CallsH.pure _ rfl (bit_ph _ m.ans 128) ?_⟩
      simp (config := { dsimp := false, maxSteps := 10000000 }) (disch := omega) only [go_sem, reduceIte, Nat.reduceEqDiff, reduceCtorEq, Nat.reduceAdd, Nat.reduceMul, Int.reduceToNat, Int.reduceLE, Int.reduceLT, Int.reduceEq, Int.reduceNe, Nat.reduceLeDiff, Int.reducePow, Nat.reducePow, Nat.reduceLT, Nat.reduceSub, Nat.reduceMod, Nat.reduceDiv, slot_neg, slot_pos, T.ag_23, T.ag_3, T.ag_36, T.ag_37, T.ag_38, T.ag_4, T.ag_40, T.ag_9, T.ap_52, T.eb_32, T.eb_71, T.es_37, T.es_38, T.es_52, T.ez_32, T.ez_71, T.fo_23_0, T.fo_23_1, T.fo_23_2, T.fo_23_3, T.fo_36_0, T.fo_36_1, T.fo_40_0, T.fo_40_1, T.fo_40_10, T.fo_40_11, T.fo_40_2, T.fo_40_3, T.fo_40_4, T.fo_40_5, T.fo_40_6, T.fo_40_7, T.fo_40_8, T.fo_40_9, T.gf_19, T.gf_20, T.gf_21, T.gf_22, T.gf_23, T.ib_25, T.ib_3, T.ii_32, T.ii_37, T.ii_38, T.ii_52, T.ii_9, T.ip_25, T.ip_3, T.pl_52, T.pl_56, T.s8_32, T.s8_37, T.s8_38, T.s8_52, T.s8_9, T.sl_32, T.sl_37, T.sl_38, T.sl_52, T.sl_9, T.st_32, T.st_37, T.st_38, T.st_52, T.st_9, T.un_32, T.un_37, T.un_38, T.un_52, T.un_9, T.zo_23, T.zo_36, T.zo_52, T.zo_56, hg2, nD2, lock_live', lock_cells, lk_own]
      refine CallsH.pure _ rfl (bit_ph _ m.own 4) ?_
      simp (config := { dsimp := false, maxSteps := 10000000 }) (disch := omega) only [go_sem, reduceIte, Nat.reduceEqDiff, reduceCtorEq, Nat.reduceAdd, Nat.reduceMul, Int.reduceToNat, Int.reduceLE, Int.reduceLT, Int.reduceEq, Int.reduceNe, Nat.reduceLeDiff, Int.reducePow, Nat.reducePow, Nat.reduceLT, Nat.reduceSub, Nat.reduceMod, Nat.reduceDiv, slot_neg, slot_pos, T.ag_23, T.ag_3, T.ag_36, T.ag_37, T.ag_38, T.ag_4, T.ag_40, T.ag_9, T.ap_52, T.eb_32, T.eb_71, T.es_37, T.es_38, T.es_52, T.ez_32, T.ez_71, T.fo_23_0, T.fo_23_1, T.fo_23_2, T.fo_23_3, T.fo_36_0, T.fo_36_1, T.fo_40_0, T.fo_40_1, T.fo_40_10, T.fo_40_11, T.fo_40_2, T.fo_40_3, T.fo_40_4, T.fo_40_5, T.fo_40_6, T.fo_40_7, T.fo_40_8, T.fo_40_9, T.gf_19, T.gf_20, T.gf_21, T.gf_22, T.gf_23, T.ib_25, T.ib_3, T.ii_32, T.ii_37, T.ii_38, T.ii_52, T.ii_9, T.ip_25, T.ip_3, T.pl_52, T.pl_56, T.s8_32, T.s8_37, T.s8_38, T.s8_52, T.s8_9, T.sl_32, T.sl_37, T.sl_38, T.sl_52, T.sl_9, T.st_32, T.st_37, T.st_38, T.st_52, T.st_9, T.un_32, T.un_37, T.un_38, T.un_52, T.un_9, T.zo_23, T.zo_36, T.zo_52, T.zo_56, hg2, nD2, lock_live', lock_cells, lk_own]
      refine CallsH.pure _ rfl (bit_ph _ m.cut 2) ?_
      simp (config := { dsimp := false, maxSteps := 10000000 }) (disch := omega) only [go_sem, reduceIte, Nat.reduceEqDiff, reduceCtorEq, Nat.reduceAdd, Nat.reduceMul, Int.reduceToNat, Int.reduceLE, Int.reduceLT, Int.reduceEq, Int.reduceNe, Nat.reduceLeDiff, Int.reducePow, Nat.reducePow, Nat.reduceLT, Nat.reduceSub, Nat.reduceMod, Nat.reduceDiv, slot_neg, slot_pos, T.ag_23, T.ag_3, T.ag_36, T.ag_37, T.ag_38, T.ag_4, T.ag_40, T.ag_9, T.ap_52, T.eb_32, T.eb_71, T.es_37, T.es_38, T.es_52, T.ez_32, T.ez_71, T.fo_23_0, T.fo_23_1, T.fo_23_2, T.fo_23_3, T.fo_36_0, T.fo_36_1, T.fo_40_0, T.fo_40_1, T.fo_40_10, T.fo_40_11, T.fo_40_2, T.fo_40_3, T.fo_40_4, T.fo_40_5, T.fo_40_6, T.fo_40_7, T.fo_40_8, T.fo_40_9, T.gf_19, T.gf_20, T.gf_21, T.gf_22, T.gf_23, T.ib_25, T.ib_3, T.ii_32, T.ii_37, T.ii_38, T.ii_52, T.ii_9, T.ip_25, T.ip_3, T.pl_52, T.pl_56, T.s8_32, T.s8_37, T.s8_38, T.s8_52, T.s8_9, T.sl_32, T.sl_37, T.sl_38, T.sl_52, T.sl_9, T.st_32, T.st_37, T.st_38, T.st_52, T.st_9, T.un_32, T.un_37, T.un_38, T.un_52, T.un_9, T.zo_23, T.zo_36, T.zo_52, T.zo_56, hg2, nD2, lock_live', lock_cells, lk_own]
      refine CallsH.pure _ rfl (bit_ph _ m.wanted 1) ?_
      simp (config := { dsimp := false, maxSteps := 10000000 }) (disch := omega) only [go_sem, reduceIte, Nat.reduceEqDiff, reduceCtorEq, Nat.reduceAdd, Nat.reduceMul, Int.reduceToNat, Int.reduceLE, Int.reduceLT, Int.reduceEq, Int.reduceNe, Nat.reduceLeDiff, Int.reducePow, Nat.reducePow, Nat.reduceLT, Nat.reduceSub, Nat.reduceMod, Nat.reduceDiv, slot_neg, slot_pos, T.ag_23, T.ag_3, T.ag_36, T.ag_37, T.ag_38, T.ag_4, T.ag_40, T.ag_9, T.ap_52, T.eb_32, T.eb_71, T.es_37, T.es_38, T.es_52, T.ez_32, T.ez_71, T.fo_23_0, T.fo_23_1, T.fo_23_2, T.fo_23_3, T.fo_36_0, T.fo_36_1, T.fo_40_0, T.fo_40_1, T.fo_40_10, T.fo_40_11, T.fo_40_2, T.fo_40_3, T.fo_40_4, T.fo_40_5, T.fo_40_6, T.fo_40_7, T.fo_40_8, T.fo_40_9, T.gf_19, T.gf_20, T.gf_21, T.gf_22, T.gf_23, T.ib_25, T.ib_3, T.ii_32, T.ii_37, T.ii_38, T.ii_52, T.ii_9, T.ip_25, T.ip_3, T.pl_52, T.pl_56, T.s8_32, T.s8_37, T.s8_38, T.s8_52, T.s8_9, T.sl_32, T.sl_37, T.sl_38, T.sl_52, T.sl_9, T.st_32, T.st_37, T.st_38, T.st_52, T.st_9, T.un_32, T.un_37, T.un_38, T.un_52, T.un_9, T.zo_23, T.zo_36, T.zo_52, T.zo_56, hg2, nD2, lock_live', lock_cells, lk_own, flags_or k3]
      refine (num_ph _ u D2 (numS m.id 2) _ 1 (hO2.maskW fun d hd => hd) (by rw [numS_len]; omega) (by omega)).mono fun u3 H3 ⟨D3, hO3, hD3, hU3⟩ => ?_
      have hou3 := hO3.row.one
      simp (config := { dsimp := false, maxSteps := 10000000 }) (disch := omega) only [go_sem, reduceIte, Nat.reduceEqDiff, reduceCtorEq, Nat.reduceAdd, Nat.reduceMul, Int.reduceToNat, Int.reduceLE, Int.reduceLT, Int.reduceEq, Int.reduceNe, Nat.reduceLeDiff, Int.reducePow, Nat.reducePow, Nat.reduceLT, Nat.reduceSub, Nat.reduceMod, Nat.reduceDiv, slot_neg, slot_pos, T.ag_23, T.ag_3, T.ag_36, T.ag_37, T.ag_38, T.ag_4, T.ag_40, T.ag_9, T.ap_52, T.eb_32, T.eb_71, T.es_37, T.es_38, T.es_52, T.ez_32, T.ez_71, T.fo_23_0, T.fo_23_1, T.fo_23_2, T.fo_23_3, T.fo_36_0, T.fo_36_1, T.fo_40_0, T.fo_40_1, T.fo_40_10, T.fo_40_11, T.fo_40_2, T.fo_40_3, T.fo_40_4, T.fo_40_5, T.fo_40_6, T.fo_40_7, T.fo_40_8, T.fo_40_9, T.gf_19, T.gf_20, T.gf_21, T.gf_22, T.gf_23, T.ib_25, T.ib_3, T.ii_32, T.ii_37, T.ii_38, T.ii_52, T.ii_9, T.ip_25, T.ip_3, T.pl_52, T.pl_56, T.s8_32, T.s8_37, T.s8_38, T.s8_52, T.s8_9, T.sl_32, T.sl_37, T.sl_38, T.sl_52, T.sl_9, T.st_32, T.st_37, T.st_38, T.st_52, T.st_9, T.un_32, T.un_37, T.un_38, T.un_52, T.un_9, T.zo_23, T.zo_36, T.zo_52, T.zo_56, hou3.1, hou3.2]
      exact ⟨u3, D3, by simp [upd], by simp [upd, initR], ps_un hO3 hD3 hUU2 hU3.1 (fun d hd => by rcases hD2 d hd with h9 | h9; cases h9; omega) hg2 (by omega)⟩
    · rintro r H3 ⟨v3, D3, q5, q1, hO3, hD3, hU3, hg3, hn3⟩
      have hou3 := hO3.row.one
      have nD3 : (h.next ∈ D3) = False := eq_false fun hh => by have := hD3 _ hh; omega
      unfold MsgV.blk at hg3
      refine CodeH.seq (fun r H => PS h H (m.blk sa s1 s2 s3) (numS m.id 2 ++ numS (bitS m.ans 128 + 8 * m.kind + bitS m.own 4 + bitS m.cut 2 + bitS m.wanted 1) 1 ++ numS (bitS m.able 128 + m.code) 1) r) (CodeH.of_vc [6] hm (by kernel_rfl) ?_) ?_
      · simp (config := { dsimp := false, maxSteps := 10000000 }) (disch := omega) only [go_sem, reduceIte, Nat.reduceEqDiff, reduceCtorEq, Nat.reduceAdd, Nat.reduceMul, Int.reduceToNat, Int.reduceLE, Int.reduceLT, Int.reduceEq, Int.reduceNe, Nat.reduceLeDiff, Int.reducePow, Nat.reducePow, Nat.reduceLT, Nat.reduceSub, Nat.reduceMod, Nat.reduceDiv, slot_neg, slot_pos, T.ag_23, T.ag_3, T.ag_36, T.ag_37, T.ag_38, T.ag_4, T.ag_40, T.ag_9, T.ap_52, T.eb_32, T.eb_71, T.es_37, T.es_38, T.es_52, T.ez_32, T.ez_71, T.fo_23_0, T.fo_23_1, T.fo_23_2, T.fo_23_3, T.fo_36_0, T.fo_36_1, T.fo_40_0, T.fo_40_1, T.fo_40_10, T.fo_40_11, T.fo_40_2, T.fo_40_3, T.fo_40_4, T.fo_40_5, T.fo_40_6, T.fo_40_7, T.fo_40_8, T.fo_40_9, T.gf_19, T.gf_20, T.gf_21, T.gf_22, T.gf_23, T.ib_25, T.ib_3, T.ii_32, T.ii_37, T.ii_38, T.ii_52, T.ii_9, T.ip_25, T.ip_3, T.pl_52, T.pl_56, T.s8_32, T.s8_37, T.s8_38, T.s8_52, T.s8_9, T.sl_32, T.sl_37, T.sl_38, T.sl_52, T.sl_9, T.st_32, T.st_37, T.st_38, T.st_52, T.st_9, T.un_32, T.un_37, T.un_38, T.un_52, T.un_9, T.zo_23, T.zo_36, T.zo_52, T.zo_56, q1, q5]
        refine draw_plan D3 (.takeS 1 (.takeS 2 (.take 0 (.take 4 (.take 5 (.alt 3 (.takeS 6 (.alt 7 (.takeS 8 .done) .stop)) .stop)))))) hm (by kernel_rfl) (by kernel_rfl) ?_
        simp (config := { dsimp := false, maxSteps := 10000000 }) (disch := omega) only [go_sem, reduceIte, Nat.reduceEqDiff, reduceCtorEq, Nat.reduceAdd, Nat.reduceMul, Int.reduceToNat, Int.reduceLE, Int.reduceLT, Int.reduceEq, Int.reduceNe, Nat.reduceLeDiff, Int.reducePow, Nat.reducePow, Nat.reduceLT, Nat.reduceSub, Nat.reduceMod, Nat.reduceDiv, slot_neg, slot_pos, T.ag_23, T.ag_3, T.ag_36, T.ag_37, T.ag_38, T.ag_4, T.ag_40, T.ag_9, T.ap_52, T.eb_32, T.eb_71, T.es_37, T.es_38, T.es_52, T.ez_32, T.ez_71, T.fo_23_0, T.fo_23_1, T.fo_23_2, T.fo_23_3, T.fo_36_0, T.fo_36_1, T.fo_40_0, T.fo_40_1, T.fo_40_10, T.fo_40_11, T.fo_40_2, T.fo_40_3, T.fo_40_4, T.fo_40_5, T.fo_40_6, T.fo_40_7, T.fo_40_8, T.fo_40_9, T.gf_19, T.gf_20, T.gf_21, T.gf_22, T.gf_23, T.ib_25, T.ib_3, T.ii_32, T.ii_37, T.ii_38, T.ii_52, T.ii_9, T.ip_25, T.ip_3, T.pl_52, T.pl_56, T.s8_32, T.s8_37, T.s8_38, T.s8_52, T.s8_9, T.sl_32, T.sl_37, T.sl_38, T.sl_52, T.sl_9, T.st_32, T.st_37, T.st_38, T.st_52, T.st_9, T.un_32, T.un_37, T.un_38, T.un_52, T.un_9, T.zo_23, T.zo_36, T.zo_52, T.zo_56, q1, q5, hg3, nD3, lock_live', lock_cells, lk_own]
        refine ⟨by omega, CallsH.pure _ rfl (bit_ph _ m.able 128) ?_⟩
        simp (config := { dsimp := false, maxSteps := 10000000 }) (disch := omega) only [go_sem, reduceIte, Nat.reduceEqDiff, reduceCtorEq, Nat.reduceAdd, Nat.reduceMul, Int.reduceToNat, Int.reduceLE, Int.reduceLT, Int.reduceEq, Int.reduceNe, Nat.reduceLeDiff, Int.reducePow, Nat.reducePow, Nat.reduceLT, Nat.reduceSub, Nat.reduceMod, Nat.reduceDiv, slot_neg, slot_pos, T.ag_23, T.ag_3, T.ag_36, T.ag_37, T.ag_38, T.ag_4, T.ag_40, T.ag_9, T.ap_52, T.eb_32, T.eb_71, T.es_37, T.es_38, T.es_52, T.ez_32, T.ez_71, T.fo_23_0, T.fo_23_1, T.fo_23_2, T.fo_23_3, T.fo_36_0, T.fo_36_1, T.fo_40_0, T.fo_40_1, T.fo_40_10, T.fo_40_11, T.fo_40_2, T.fo_40_3, T.fo_40_4, T.fo_40_5, T.fo_40_6, T.fo_40_7, T.fo_40_8, T.fo_40_9, T.gf_19, T.gf_20, T.gf_21, T.gf_22, T.gf_23, T.ib_25, T.ib_3, T.ii_32, T.ii_37, T.ii_38, T.ii_52, T.ii_9, T.ip_25, T.ip_3, T.pl_52, T.pl_56, T.s8_32, T.s8_37, T.s8_38, T.s8_52, T.s8_9, T.sl_32, T.sl_37, T.sl_38, T.sl_52, T.sl_9, T.st_32, T.st_37, T.st_38, T.st_52, T.st_9, T.un_32, T.un_37, T.un_38, T.un_52, T.un_9, T.zo_23, T.zo_36, T.zo_52, T.zo_56, q1, q5, hg3, nD3, lock_live', lock_cells, lk_own, code_or k4]
        refine (num_ph _ v3 D3 _ _ 1 (hO3.maskW fun d hd => hd) (by simp only [List.length_append, numS_len]; omega) (by omega)).mono fun u3 H4 ⟨D4, hO4, hD4, hU4⟩ => ?_
        have hou4 := hO4.row.one
        simp (config := { dsimp := false, maxSteps := 10000000 }) (disch := omega) only [go_sem, reduceIte, Nat.reduceEqDiff, reduceCtorEq, Nat.reduceAdd, Nat.reduceMul, Int.reduceToNat, Int.reduceLE, Int.reduceLT, Int.reduceEq, Int.reduceNe, Nat.reduceLeDiff, Int.reducePow, Nat.reducePow, Nat.reduceLT, Nat.reduceSub, Nat.reduceMod, Nat.reduceDiv, slot_neg, slot_pos, T.ag_23, T.ag_3, T.ag_36, T.ag_37, T.ag_38, T.ag_4, T.ag_40, T.ag_9, T.ap_52, T.eb_32, T.eb_71, T.es_37, T.es_38, T.es_52, T.ez_32, T.ez_71, T.fo_23_0, T.fo_23_1, T.fo_23_2, T.fo_23_3, T.fo_36_0, T.fo_36_1, T.fo_40_0, T.fo_40_1, T.fo_40_10, T.fo_40_11, T.fo_40_2, T.fo_40_3, T.fo_40_4, T.fo_40_5, T.fo_40_6, T.fo_40_7, T.fo_40_8, T.fo_40_9, T.gf_19, T.gf_20, T.gf_21, T.gf_22, T.gf_23, T.ib_25, T.ib_3, T.ii_32, T.ii_37, T.ii_38, T.ii_52, T.ii_9, T.ip_25, T.ip_3, T.pl_52, T.pl_56, T.s8_32, T.s8_37, T.s8_38, T.s8_52, T.s8_9, T.sl_32, T.sl_37, T.sl_38, T.sl_52, T.sl_9, T.st_32, T.st_37, T.st_38, T.st_52, T.st_9, T.un_32, T.un_37, T.un_38, T.un_52, T.un_9, T.zo_23, T.zo_36, T.zo_52, T.zo_56, q1, hou4.1, hou4.2]
        exact ⟨u3, D4, by simp [upd], by simp [upd, q1], ps_un hO4 hD4 hU3 hU4.1 hD3 hg3 hn3⟩
      · rintro r H4 ⟨v4, D4, q5, q1, hO4, hD4, hU4, hg4, hn4⟩
        have hou4 := hO4.row.one
        have hM4 := hM.upd hU4
        unfold MsgV.blk at hg4
        refine CodeH.seq (fun r H => PS h H (m.blk sa s1 s2 s3) m.head r) (CodeH.of_vc [] hm (by kernel_rfl) ?_) ?_
        · simp (config := { dsimp := false, maxSteps := 10000000 }) (disch := omega) only [go_sem, reduceIte, Nat.reduceEqDiff, reduceCtorEq, Nat.reduceAdd, Nat.reduceMul, Int.reduceToNat, Int.reduceLE, Int.reduceLT, Int.reduceEq, Int.reduceNe, Nat.reduceLeDiff, Int.reducePow, Nat.reducePow, Nat.reduceLT, Nat.reduceSub, Nat.reduceMod, Nat.reduceDiv, slot_neg, slot_pos, T.ag_23, T.ag_3, T.ag_36, T.ag_37, T.ag_38, T.ag_4, T.ag_40, T.ag_9, T.ap_52, T.eb_32, T.eb_71, T.es_37, T.es_38, T.es_52, T.ez_32, T.ez_71, T.fo_23_0, T.fo_23_1, T.fo_23_2, T.fo_23_3, T.fo_36_0, T.fo_36_1, T.fo_40_0, T.fo_40_1, T.fo_40_10, T.fo_40_11, T.fo_40_2, T.fo_40_3, T.fo_40_4, T.fo_40_5, T.fo_40_6, T.fo_40_7, T.fo_40_8, T.fo_40_9, T.gf_19, T.gf_20, T.gf_21, T.gf_22, T.gf_23, T.ib_25, T.ib_3, T.ii_32, T.ii_37, T.ii_38, T.ii_52, T.ii_9, T.ip_25, T.ip_3, T.pl_52, T.pl_56, T.s8_32, T.s8_37, T.s8_38, T.s8_52, T.s8_9, T.sl_32, T.sl_37, T.sl_38, T.sl_52, T.sl_9, T.st_32, T.st_37, T.st_38, T.st_52, T.st_9, T.un_32, T.un_37, T.un_38, T.un_52, T.un_9, T.zo_23, T.zo_36, T.zo_52, T.zo_56, q1, q5, hg4, oa.1, oa.2, o1.1, o1.2, o2.1, o2.2, o3.1, o3.2, len_in hM4.ra, len_in hM4.r1, len_in hM4.r2, len_in hM4.r3]
          refine loop_intro [] hm (fun r H => ∃ k : Nat, k ≤ 4 ∧ r 62 = .agg #[.int .i64 m.ask.length, .int .i64 m.a1.length, .int .i64 m.a2.length, .int .i64 m.a3.length] ∧ r 63 = .int .i64 k ∧ PS h H (m.blk sa s1 s2 s3) (numS m.id 2 ++ numS (bitS m.ans 128 + 8 * m.kind + bitS m.own 4 + bitS m.cut 2 + bitS m.wanted 1) 1 ++ numS (bitS m.able 128 + m.code) 1 ++ ([(m.ask.length : Int), m.a1.length, m.a2.length, m.a3.length].take k).flatMap fun n => numS n 2) r) (fun r _ => match r 63 with | .int _ i => 4 - i.toNat | _ => 0) ?_ ?_
          · exact ⟨0, by omega, by simp [upd], by simp [upd], v4, D4, by simp [upd, q5], by simp [upd, q1], by simpa using hO4, hD4, hU4, hg4, hn4⟩
          · rintro r H5 ⟨k, hk, q62, q63, v5, D5, q5, q1, hO5, hD5, hU5, hg5, hn5⟩
            have hou5 := hO5.row.one
            have hlen : (numS m.id 2 ++ numS (bitS m.ans 128 + 8 * m.kind + bitS m.own 4 + bitS m.cut 2 + bitS m.wanted 1) 1 ++ numS (bitS m.able 128 + m.code) 1 ++ ([(m.ask.length : Int), m.a1.length, m.a2.length, m.a3.length].take k).flatMap fun n => numS n 2).length ≤ 1000 := by
              have : k = 0 ∨ k = 1 ∨ k = 2 ∨ k = 3 ∨ k = 4 := by omega
              rcases this with rfl | rfl | rfl | rfl | rfl <;> simp [numS_len]
            have step : ∀ (j : Nat) (n : Int), k = j → [(m.ask.length : Int), m.a1.length, m.a2.length, m.a3.length][j]? = some n → ([(m.ask.length : Int), m.a1.length, m.a2.length, m.a3.length].take (j + 1)).flatMap (fun n => numS n 2) = ([(m.ask.length : Int), m.a1.length, m.a2.length, m.a3.length].take k).flatMap (fun n => numS n 2) ++ numS n 2 := fun j n e hn => by
              subst e
              obtain ⟨hj, rfl⟩ := List.getElem?_eq_some_iff.1 hn
              rw [List.take_succ_eq_append_getElem hj, List.flatMap_append]
              simp only [List.flatMap_cons, List.flatMap_nil, List.append_nil]
            have hk5 : k = 0 ∨ k = 1 ∨ k = 2 ∨ k = 3 ∨ k = 4 := by omega
            rcases hk5 with rfl | rfl | rfl | rfl | rfl
            · replace q63 : r 63 = .int .i64 0 := q63
              simp (config := { dsimp := false, maxSteps := 10000000 }) (disch := omega) only [go_sem, reduceIte, Nat.reduceEqDiff, reduceCtorEq, Nat.reduceAdd, Nat.reduceMul, Int.reduceToNat, Int.reduceLE, Int.reduceLT, Int.reduceEq, Int.reduceNe, Nat.reduceLeDiff, Int.reducePow, Nat.reducePow, Nat.reduceLT, Nat.reduceSub, Nat.reduceMod, Nat.reduceDiv, slot_neg, slot_pos, T.ag_23, T.ag_3, T.ag_36, T.ag_37, T.ag_38, T.ag_4, T.ag_40, T.ag_9, T.ap_52, T.eb_32, T.eb_71, T.es_37, T.es_38, T.es_52, T.ez_32, T.ez_71, T.fo_23_0, T.fo_23_1, T.fo_23_2, T.fo_23_3, T.fo_36_0, T.fo_36_1, T.fo_40_0, T.fo_40_1, T.fo_40_10, T.fo_40_11, T.fo_40_2, T.fo_40_3, T.fo_40_4, T.fo_40_5, T.fo_40_6, T.fo_40_7, T.fo_40_8, T.fo_40_9, T.gf_19, T.gf_20, T.gf_21, T.gf_22, T.gf_23, T.ib_25, T.ib_3, T.ii_32, T.ii_37, T.ii_38, T.ii_52, T.ii_9, T.ip_25, T.ip_3, T.pl_52, T.pl_56, T.s8_32, T.s8_37, T.s8_38, T.s8_52, T.s8_9, T.sl_32, T.sl_37, T.sl_38, T.sl_52, T.sl_9, T.st_32, T.st_37, T.st_38, T.st_52, T.st_9, T.un_32, T.un_37, T.un_38, T.un_52, T.un_9, T.zo_23, T.zo_36, T.zo_52, T.zo_56, q62, q63, q5, q1, hou5.1, hou5.2]
              refine ⟨by decide, (num_ph H5 v5 D5 _ (m.ask.length : Int) 2 hO5 (by omega) (by omega)).mono fun u6 H6 ⟨D6, hO6, hD6, hU6⟩ => ?_⟩
              have hou6 := hO6.row.one
              have w1 : IntKind.i64.wrap (0 + 1) = 1 := by decide
              simp (config := { dsimp := false, maxSteps := 10000000 }) (disch := omega) only [go_sem, reduceIte, Nat.reduceEqDiff, reduceCtorEq, Nat.reduceAdd, Nat.reduceMul, Int.reduceToNat, Int.reduceLE, Int.reduceLT, Int.reduceEq, Int.reduceNe, Nat.reduceLeDiff, Int.reducePow, Nat.reducePow, Nat.reduceLT, Nat.reduceSub, Nat.reduceMod, Nat.reduceDiv, slot_neg, slot_pos, T.ag_23, T.ag_3, T.ag_36, T.ag_37, T.ag_38, T.ag_4, T.ag_40, T.ag_9, T.ap_52, T.eb_32, T.eb_71, T.es_37, T.es_38, T.es_52, T.ez_32, T.ez_71, T.fo_23_0, T.fo_23_1, T.fo_23_2, T.fo_23_3, T.fo_36_0, T.fo_36_1, T.fo_40_0, T.fo_40_1, T.fo_40_10, T.fo_40_11, T.fo_40_2, T.fo_40_3, T.fo_40_4, T.fo_40_5, T.fo_40_6, T.fo_40_7, T.fo_40_8, T.fo_40_9, T.gf_19, T.gf_20, T.gf_21, T.gf_22, T.gf_23, T.ib_25, T.ib_3, T.ii_32, T.ii_37, T.ii_38, T.ii_52, T.ii_9, T.ip_25, T.ip_3, T.pl_52, T.pl_56, T.s8_32, T.s8_37, T.s8_38, T.s8_52, T.s8_9, T.sl_32, T.sl_37, T.sl_38, T.sl_52, T.sl_9, T.st_32, T.st_37, T.st_38, T.st_52, T.st_9, T.un_32, T.un_37, T.un_38, T.un_52, T.un_9, T.zo_23, T.zo_36, T.zo_52, T.zo_56, q62, q63, q5, q1, hou6.1, hou6.2, w1]
              refine ⟨1, by omega, rfl, u6, D6, by simp [upd], by simp [upd, q1], ?_, ps_up hD6 hU6 hD5 hU5 hg5 hn5⟩
              rw [step 0 (m.ask.length : Int) rfl rfl, ← List.append_assoc]; exact hO6
            · replace q63 : r 63 = .int .i64 1 := q63
              simp (config := { dsimp := false, maxSteps := 10000000 }) (disch := omega) only [go_sem, reduceIte, Nat.reduceEqDiff, reduceCtorEq, Nat.reduceAdd, Nat.reduceMul, Int.reduceToNat, Int.reduceLE, Int.reduceLT, Int.reduceEq, Int.reduceNe, Nat.reduceLeDiff, Int.reducePow, Nat.reducePow, Nat.reduceLT, Nat.reduceSub, Nat.reduceMod, Nat.reduceDiv, slot_neg, slot_pos, T.ag_23, T.ag_3, T.ag_36, T.ag_37, T.ag_38, T.ag_4, T.ag_40, T.ag_9, T.ap_52, T.eb_32, T.eb_71, T.es_37, T.es_38, T.es_52, T.ez_32, T.ez_71, T.fo_23_0, T.fo_23_1, T.fo_23_2, T.fo_23_3, T.fo_36_0, T.fo_36_1, T.fo_40_0, T.fo_40_1, T.fo_40_10, T.fo_40_11, T.fo_40_2, T.fo_40_3, T.fo_40_4, T.fo_40_5, T.fo_40_6, T.fo_40_7, T.fo_40_8, T.fo_40_9, T.gf_19, T.gf_20, T.gf_21, T.gf_22, T.gf_23, T.ib_25, T.ib_3, T.ii_32, T.ii_37, T.ii_38, T.ii_52, T.ii_9, T.ip_25, T.ip_3, T.pl_52, T.pl_56, T.s8_32, T.s8_37, T.s8_38, T.s8_52, T.s8_9, T.sl_32, T.sl_37, T.sl_38, T.sl_52, T.sl_9, T.st_32, T.st_37, T.st_38, T.st_52, T.st_9, T.un_32, T.un_37, T.un_38, T.un_52, T.un_9, T.zo_23, T.zo_36, T.zo_52, T.zo_56, q62, q63, q5, q1, hou5.1, hou5.2]
              refine ⟨by decide, (num_ph H5 v5 D5 _ (m.a1.length : Int) 2 hO5 (by omega) (by omega)).mono fun u6 H6 ⟨D6, hO6, hD6, hU6⟩ => ?_⟩
              have hou6 := hO6.row.one
              have w1 : IntKind.i64.wrap (1 + 1) = 2 := by decide
              simp (config := { dsimp := false, maxSteps := 10000000 }) (disch := omega) only [go_sem, reduceIte, Nat.reduceEqDiff, reduceCtorEq, Nat.reduceAdd, Nat.reduceMul, Int.reduceToNat, Int.reduceLE, Int.reduceLT, Int.reduceEq, Int.reduceNe, Nat.reduceLeDiff, Int.reducePow, Nat.reducePow, Nat.reduceLT, Nat.reduceSub, Nat.reduceMod, Nat.reduceDiv, slot_neg, slot_pos, T.ag_23, T.ag_3, T.ag_36, T.ag_37, T.ag_38, T.ag_4, T.ag_40, T.ag_9, T.ap_52, T.eb_32, T.eb_71, T.es_37, T.es_38, T.es_52, T.ez_32, T.ez_71, T.fo_23_0, T.fo_23_1, T.fo_23_2, T.fo_23_3, T.fo_36_0, T.fo_36_1, T.fo_40_0, T.fo_40_1, T.fo_40_10, T.fo_40_11, T.fo_40_2, T.fo_40_3, T.fo_40_4, T.fo_40_5, T.fo_40_6, T.fo_40_7, T.fo_40_8, T.fo_40_9, T.gf_19, T.gf_20, T.gf_21, T.gf_22, T.gf_23, T.ib_25, T.ib_3, T.ii_32, T.ii_37, T.ii_38, T.ii_52, T.ii_9, T.ip_25, T.ip_3, T.pl_52, T.pl_56, T.s8_32, T.s8_37, T.s8_38, T.s8_52, T.s8_9, T.sl_32, T.sl_37, T.sl_38, T.sl_52, T.sl_9, T.st_32, T.st_37, T.st_38, T.st_52, T.st_9, T.un_32, T.un_37, T.un_38, T.un_52, T.un_9, T.zo_23, T.zo_36, T.zo_52, T.zo_56, q62, q63, q5, q1, hou6.1, hou6.2, w1]
              refine ⟨2, by omega, rfl, u6, D6, by simp [upd], by simp [upd, q1], ?_, ps_up hD6 hU6 hD5 hU5 hg5 hn5⟩
              rw [step 1 (m.a1.length : Int) rfl rfl, ← List.append_assoc]; exact hO6
            · replace q63 : r 63 = .int .i64 2 := q63
              simp (config := { dsimp := false, maxSteps := 10000000 }) (disch := omega) only [go_sem, reduceIte, Nat.reduceEqDiff, reduceCtorEq, Nat.reduceAdd, Nat.reduceMul, Int.reduceToNat, Int.reduceLE, Int.reduceLT, Int.reduceEq, Int.reduceNe, Nat.reduceLeDiff, Int.reducePow, Nat.reducePow, Nat.reduceLT, Nat.reduceSub, Nat.reduceMod, Nat.reduceDiv, slot_neg, slot_pos, T.ag_23, T.ag_3, T.ag_36, T.ag_37, T.ag_38, T.ag_4, T.ag_40, T.ag_9, T.ap_52, T.eb_32, T.eb_71, T.es_37, T.es_38, T.es_52, T.ez_32, T.ez_71, T.fo_23_0, T.fo_23_1, T.fo_23_2, T.fo_23_3, T.fo_36_0, T.fo_36_1, T.fo_40_0, T.fo_40_1, T.fo_40_10, T.fo_40_11, T.fo_40_2, T.fo_40_3, T.fo_40_4, T.fo_40_5, T.fo_40_6, T.fo_40_7, T.fo_40_8, T.fo_40_9, T.gf_19, T.gf_20, T.gf_21, T.gf_22, T.gf_23, T.ib_25, T.ib_3, T.ii_32, T.ii_37, T.ii_38, T.ii_52, T.ii_9, T.ip_25, T.ip_3, T.pl_52, T.pl_56, T.s8_32, T.s8_37, T.s8_38, T.s8_52, T.s8_9, T.sl_32, T.sl_37, T.sl_38, T.sl_52, T.sl_9, T.st_32, T.st_37, T.st_38, T.st_52, T.st_9, T.un_32, T.un_37, T.un_38, T.un_52, T.un_9, T.zo_23, T.zo_36, T.zo_52, T.zo_56, q62, q63, q5, q1, hou5.1, hou5.2]
              refine ⟨by decide, (num_ph H5 v5 D5 _ (m.a2.length : Int) 2 hO5 (by omega) (by omega)).mono fun u6 H6 ⟨D6, hO6, hD6, hU6⟩ => ?_⟩
              have hou6 := hO6.row.one
              have w1 : IntKind.i64.wrap (2 + 1) = 3 := by decide
              simp (config := { dsimp := false, maxSteps := 10000000 }) (disch := omega) only [go_sem, reduceIte, Nat.reduceEqDiff, reduceCtorEq, Nat.reduceAdd, Nat.reduceMul, Int.reduceToNat, Int.reduceLE, Int.reduceLT, Int.reduceEq, Int.reduceNe, Nat.reduceLeDiff, Int.reducePow, Nat.reducePow, Nat.reduceLT, Nat.reduceSub, Nat.reduceMod, Nat.reduceDiv, slot_neg, slot_pos, T.ag_23, T.ag_3, T.ag_36, T.ag_37, T.ag_38, T.ag_4, T.ag_40, T.ag_9, T.ap_52, T.eb_32, T.eb_71, T.es_37, T.es_38, T.es_52, T.ez_32, T.ez_71, T.fo_23_0, T.fo_23_1, T.fo_23_2, T.fo_23_3, T.fo_36_0, T.fo_36_1, T.fo_40_0, T.fo_40_1, T.fo_40_10, T.fo_40_11, T.fo_40_2, T.fo_40_3, T.fo_40_4, T.fo_40_5, T.fo_40_6, T.fo_40_7, T.fo_40_8, T.fo_40_9, T.gf_19, T.gf_20, T.gf_21, T.gf_22, T.gf_23, T.ib_25, T.ib_3, T.ii_32, T.ii_37, T.ii_38, T.ii_52, T.ii_9, T.ip_25, T.ip_3, T.pl_52, T.pl_56, T.s8_32, T.s8_37, T.s8_38, T.s8_52, T.s8_9, T.sl_32, T.sl_37, T.sl_38, T.sl_52, T.sl_9, T.st_32, T.st_37, T.st_38, T.st_52, T.st_9, T.un_32, T.un_37, T.un_38, T.un_52, T.un_9, T.zo_23, T.zo_36, T.zo_52, T.zo_56, q62, q63, q5, q1, hou6.1, hou6.2, w1]
              refine ⟨3, by omega, rfl, u6, D6, by simp [upd], by simp [upd, q1], ?_, ps_up hD6 hU6 hD5 hU5 hg5 hn5⟩
              rw [step 2 (m.a2.length : Int) rfl rfl, ← List.append_assoc]; exact hO6
            · replace q63 : r 63 = .int .i64 3 := q63
              simp (config := { dsimp := false, maxSteps := 10000000 }) (disch := omega) only [go_sem, reduceIte, Nat.reduceEqDiff, reduceCtorEq, Nat.reduceAdd, Nat.reduceMul, Int.reduceToNat, Int.reduceLE, Int.reduceLT, Int.reduceEq, Int.reduceNe, Nat.reduceLeDiff, Int.reducePow, Nat.reducePow, Nat.reduceLT, Nat.reduceSub, Nat.reduceMod, Nat.reduceDiv, slot_neg, slot_pos, T.ag_23, T.ag_3, T.ag_36, T.ag_37, T.ag_38, T.ag_4, T.ag_40, T.ag_9, T.ap_52, T.eb_32, T.eb_71, T.es_37, T.es_38, T.es_52, T.ez_32, T.ez_71, T.fo_23_0, T.fo_23_1, T.fo_23_2, T.fo_23_3, T.fo_36_0, T.fo_36_1, T.fo_40_0, T.fo_40_1, T.fo_40_10, T.fo_40_11, T.fo_40_2, T.fo_40_3, T.fo_40_4, T.fo_40_5, T.fo_40_6, T.fo_40_7, T.fo_40_8, T.fo_40_9, T.gf_19, T.gf_20, T.gf_21, T.gf_22, T.gf_23, T.ib_25, T.ib_3, T.ii_32, T.ii_37, T.ii_38, T.ii_52, T.ii_9, T.ip_25, T.ip_3, T.pl_52, T.pl_56, T.s8_32, T.s8_37, T.s8_38, T.s8_52, T.s8_9, T.sl_32, T.sl_37, T.sl_38, T.sl_52, T.sl_9, T.st_32, T.st_37, T.st_38, T.st_52, T.st_9, T.un_32, T.un_37, T.un_38, T.un_52, T.un_9, T.zo_23, T.zo_36, T.zo_52, T.zo_56, q62, q63, q5, q1, hou5.1, hou5.2]
              refine ⟨by decide, (num_ph H5 v5 D5 _ (m.a3.length : Int) 2 hO5 (by omega) (by omega)).mono fun u6 H6 ⟨D6, hO6, hD6, hU6⟩ => ?_⟩
              have hou6 := hO6.row.one
              have w1 : IntKind.i64.wrap (3 + 1) = 4 := by decide
              simp (config := { dsimp := false, maxSteps := 10000000 }) (disch := omega) only [go_sem, reduceIte, Nat.reduceEqDiff, reduceCtorEq, Nat.reduceAdd, Nat.reduceMul, Int.reduceToNat, Int.reduceLE, Int.reduceLT, Int.reduceEq, Int.reduceNe, Nat.reduceLeDiff, Int.reducePow, Nat.reducePow, Nat.reduceLT, Nat.reduceSub, Nat.reduceMod, Nat.reduceDiv, slot_neg, slot_pos, T.ag_23, T.ag_3, T.ag_36, T.ag_37, T.ag_38, T.ag_4, T.ag_40, T.ag_9, T.ap_52, T.eb_32, T.eb_71, T.es_37, T.es_38, T.es_52, T.ez_32, T.ez_71, T.fo_23_0, T.fo_23_1, T.fo_23_2, T.fo_23_3, T.fo_36_0, T.fo_36_1, T.fo_40_0, T.fo_40_1, T.fo_40_10, T.fo_40_11, T.fo_40_2, T.fo_40_3, T.fo_40_4, T.fo_40_5, T.fo_40_6, T.fo_40_7, T.fo_40_8, T.fo_40_9, T.gf_19, T.gf_20, T.gf_21, T.gf_22, T.gf_23, T.ib_25, T.ib_3, T.ii_32, T.ii_37, T.ii_38, T.ii_52, T.ii_9, T.ip_25, T.ip_3, T.pl_52, T.pl_56, T.s8_32, T.s8_37, T.s8_38, T.s8_52, T.s8_9, T.sl_32, T.sl_37, T.sl_38, T.sl_52, T.sl_9, T.st_32, T.st_37, T.st_38, T.st_52, T.st_9, T.un_32, T.un_37, T.un_38, T.un_52, T.un_9, T.zo_23, T.zo_36, T.zo_52, T.zo_56, q62, q63, q5, q1, hou6.1, hou6.2, w1]
              refine ⟨4, by omega, rfl, u6, D6, by simp [upd], by simp [upd, q1], ?_, ps_up hD6 hU6 hD5 hU5 hg5 hn5⟩
              rw [step 3 (m.a3.length : Int) rfl rfl, ← List.append_assoc]; exact hO6
            · replace q63 : r 63 = .int .i64 4 := q63
              simp (config := { dsimp := false, maxSteps := 10000000 }) (disch := omega) only [go_sem, reduceIte, Nat.reduceEqDiff, reduceCtorEq, Nat.reduceAdd, Nat.reduceMul, Int.reduceToNat, Int.reduceLE, Int.reduceLT, Int.reduceEq, Int.reduceNe, Nat.reduceLeDiff, Int.reducePow, Nat.reducePow, Nat.reduceLT, Nat.reduceSub, Nat.reduceMod, Nat.reduceDiv, slot_neg, slot_pos, T.ag_23, T.ag_3, T.ag_36, T.ag_37, T.ag_38, T.ag_4, T.ag_40, T.ag_9, T.ap_52, T.eb_32, T.eb_71, T.es_37, T.es_38, T.es_52, T.ez_32, T.ez_71, T.fo_23_0, T.fo_23_1, T.fo_23_2, T.fo_23_3, T.fo_36_0, T.fo_36_1, T.fo_40_0, T.fo_40_1, T.fo_40_10, T.fo_40_11, T.fo_40_2, T.fo_40_3, T.fo_40_4, T.fo_40_5, T.fo_40_6, T.fo_40_7, T.fo_40_8, T.fo_40_9, T.gf_19, T.gf_20, T.gf_21, T.gf_22, T.gf_23, T.ib_25, T.ib_3, T.ii_32, T.ii_37, T.ii_38, T.ii_52, T.ii_9, T.ip_25, T.ip_3, T.pl_52, T.pl_56, T.s8_32, T.s8_37, T.s8_38, T.s8_52, T.s8_9, T.sl_32, T.sl_37, T.sl_38, T.sl_52, T.sl_9, T.st_32, T.st_37, T.st_38, T.st_52, T.st_9, T.un_32, T.un_37, T.un_38, T.un_52, T.un_9, T.zo_23, T.zo_36, T.zo_52, T.zo_56, q62, q63, q5, q1]
              refine ⟨v5, D5, by simp [upd, q5], by simp [upd, q1], ?_, hD5, hU5, hg5, hn5⟩
              have e : m.head = (numS m.id 2 ++ numS (bitS m.ans 128 + 8 * m.kind + bitS m.own 4 + bitS m.cut 2 + bitS m.wanted 1) 1 ++ numS (bitS m.able 128 + m.code) 1 ++ ([(m.ask.length : Int), m.a1.length, m.a2.length, m.a3.length].take 4).flatMap fun n => numS n 2) := by simp [MsgV.head]
              rw [e]; exact hO5
        · rintro r H5 ⟨v5, D5, q5, q1, hO5, hD5, hU5, hg5, hn5⟩
          have hou5 := hO5.row.one
          refine CodeH.seq (fun r H => ∃ pt, QS h H (m.blk sa s1 s2 s3) pt [] m.head r) (CodeH.of_vc [] hm (by kernel_rfl) ?_) ?_
          · simp (config := { dsimp := false, maxSteps := 10000000 }) (disch := omega) only [go_sem, reduceIte, Nat.reduceEqDiff, reduceCtorEq, Nat.reduceAdd, Nat.reduceMul, Int.reduceToNat, Int.reduceLE, Int.reduceLT, Int.reduceEq, Int.reduceNe, Nat.reduceLeDiff, Int.reducePow, Nat.reducePow, Nat.reduceLT, Nat.reduceSub, Nat.reduceMod, Nat.reduceDiv, slot_neg, slot_pos, T.ag_23, T.ag_3, T.ag_36, T.ag_37, T.ag_38, T.ag_4, T.ag_40, T.ag_9, T.ap_52, T.eb_32, T.eb_71, T.es_37, T.es_38, T.es_52, T.ez_32, T.ez_71, T.fo_23_0, T.fo_23_1, T.fo_23_2, T.fo_23_3, T.fo_36_0, T.fo_36_1, T.fo_40_0, T.fo_40_1, T.fo_40_10, T.fo_40_11, T.fo_40_2, T.fo_40_3, T.fo_40_4, T.fo_40_5, T.fo_40_6, T.fo_40_7, T.fo_40_8, T.fo_40_9, T.gf_19, T.gf_20, T.gf_21, T.gf_22, T.gf_23, T.ib_25, T.ib_3, T.ii_32, T.ii_37, T.ii_38, T.ii_52, T.ii_9, T.ip_25, T.ip_3, T.pl_52, T.pl_56, T.s8_32, T.s8_37, T.s8_38, T.s8_52, T.s8_9, T.sl_32, T.sl_37, T.sl_38, T.sl_52, T.sl_9, T.st_32, T.st_37, T.st_38, T.st_52, T.st_9, T.un_32, T.un_37, T.un_38, T.un_52, T.un_9, T.zo_23, T.zo_36, T.zo_52, T.zo_56, q1, q5]
            have ltD5 := hO5.lt
            exact ⟨H5.next, v5, D5, [], by simp [upd, q5], by simp [upd, q1], by simp [upd], ⟨hO5.upd (Upd.alloc _ _ []) (by simp), ⟨Nat.lt_succ_self _, .inl ⟨by rw [get_alloc, if_pos rfl], rfl, rfl⟩⟩, fun d hd => ⟨hD5 d hd, by have := ltD5 d hd; omega, by simp⟩, by simp, hn5, hU5.trans (Upd.alloc _ _ []) (by simp), by rw [get_alloc, if_neg (by omega)]; exact hg5, Nat.lt_succ_of_lt hn5⟩, by simp⟩
          · rintro r H6 ⟨pt, v6, D6, M6, q5, q1, q8, hB6, ht6⟩
            have hM6' := hM.upd hB6.hU
            have hg6 := hB6.hg
            unfold MsgV.blk at hg6
            refine CodeH.seq (fun r H => ∃ t b, QS h H (m.blk sa s1 s2 s3) pt t b r ∧ putQs [] m.head m.ask = (t, b) ∧ b.length ≤ 100000) (CodeH.of_vc [] hm (by kernel_rfl) ?_) ?_
            · simp (config := { dsimp := false, maxSteps := 10000000 }) (disch := omega) only [go_sem, reduceIte, Nat.reduceEqDiff, reduceCtorEq, Nat.reduceAdd, Nat.reduceMul, Int.reduceToNat, Int.reduceLE, Int.reduceLT, Int.reduceEq, Int.reduceNe, Nat.reduceLeDiff, Int.reducePow, Nat.reducePow, Nat.reduceLT, Nat.reduceSub, Nat.reduceMod, Nat.reduceDiv, slot_neg, slot_pos, T.ag_23, T.ag_3, T.ag_36, T.ag_37, T.ag_38, T.ag_4, T.ag_40, T.ag_9, T.ap_52, T.eb_32, T.eb_71, T.es_37, T.es_38, T.es_52, T.ez_32, T.ez_71, T.fo_23_0, T.fo_23_1, T.fo_23_2, T.fo_23_3, T.fo_36_0, T.fo_36_1, T.fo_40_0, T.fo_40_1, T.fo_40_10, T.fo_40_11, T.fo_40_2, T.fo_40_3, T.fo_40_4, T.fo_40_5, T.fo_40_6, T.fo_40_7, T.fo_40_8, T.fo_40_9, T.gf_19, T.gf_20, T.gf_21, T.gf_22, T.gf_23, T.ib_25, T.ib_3, T.ii_32, T.ii_37, T.ii_38, T.ii_52, T.ii_9, T.ip_25, T.ip_3, T.pl_52, T.pl_56, T.s8_32, T.s8_37, T.s8_38, T.s8_52, T.s8_9, T.sl_32, T.sl_37, T.sl_38, T.sl_52, T.sl_9, T.st_32, T.st_37, T.st_38, T.st_52, T.st_9, T.un_32, T.un_37, T.un_38, T.un_52, T.un_9, T.zo_23, T.zo_36, T.zo_52, T.zo_56, q1, q5, q8, hg6, oa.1, oa.2, len_in hM6'.ra]
              refine loop_intro [] hm (fun r H => ∃ k t b, k ≤ m.ask.length ∧ r 73 = sa ∧ r 74 = .int .i64 m.ask.length ∧ r 75 = .int .i64 k ∧ QS h H (m.blk sa s1 s2 s3) pt t b r ∧ putQs [] m.head m.ask = putQs t b (m.ask.drop k) ∧ b.length ≤ 1000 + 300 * k) (fun r _ => match r 75 with | .int _ i => m.ask.length - i.toNat | _ => 0) ?_ ?_
              · exact ⟨0, [], m.head, by omega, by simp [upd], by simp [upd], by simp [upd], ⟨v6, D6, M6, by simp [upd, q5], by simp [upd, q1], by simp [upd, q8], hB6, ht6⟩, rfl, by simp [MsgV.head, numS_len]⟩
              · rintro r H7 ⟨k, t, b, hk, q73, q74, q75, ⟨v7, D7, M7, q5, q1, q8, hB7, ht7⟩, hput, hbl⟩
                have hou7 := hB7.ob.row.one
                have hU7 := hB7.hU
                by_cases hkl : k < m.ask.length
                · have c2 : ((k : Int) < (m.ask.length : Int)) = True := eq_true (by omega)
                  have wk : IntKind.i64.wrap ((k : Int) + 1) = ((k + 1 : Nat) : Int) := by rw [i64wrap] <;> omega
                  have hx : m.ask[k]? = some m.ask[k] := List.getElem?_eq_getElem hkl
                  have hq := hS.q _ (List.getElem_mem hkl)
                  have hqo := List.all_eq_true.1 k5 _ (List.getElem_mem hkl)
                  rw [List.drop_eq_getElem_cons hkl, putQs] at hput
                  rcases (hM.upd hU7).ra with ⟨_, h9⟩ | ⟨qa, off, vs, o, e1, hgq, hR⟩
                  · rw [h9] at hkl; simp at hkl
                  have ha := hR.at hx
                  have hqn : qa < h.next := hM.la _ _ _ e1
                  generalize m.ask[k] = qst at *
                  obtain ⟨nm, ty⟩ := qst
                  have h1' : List.take 2 (List.drop (off + k * 2) vs) = [.string (str nm), .int .i64 ty] := ha.1
                  have h2' : off + k * 2 + 2 ≤ vs.length := ha.2
                  rw [show qE.k = 2 from rfl] at e1
                  simp (config := { dsimp := false, maxSteps := 10000000 }) (disch := omega) only [go_sem, reduceIte, Nat.reduceEqDiff, reduceCtorEq, Nat.reduceAdd, Nat.reduceMul, Int.reduceToNat, Int.reduceLE, Int.reduceLT, Int.reduceEq, Int.reduceNe, Nat.reduceLeDiff, Int.reducePow, Nat.reducePow, Nat.reduceLT, Nat.reduceSub, Nat.reduceMod, Nat.reduceDiv, slot_neg, slot_pos, T.ag_23, T.ag_3, T.ag_36, T.ag_37, T.ag_38, T.ag_4, T.ag_40, T.ag_9, T.ap_52, T.eb_32, T.eb_71, T.es_37, T.es_38, T.es_52, T.ez_32, T.ez_71, T.fo_23_0, T.fo_23_1, T.fo_23_2, T.fo_23_3, T.fo_36_0, T.fo_36_1, T.fo_40_0, T.fo_40_1, T.fo_40_10, T.fo_40_11, T.fo_40_2, T.fo_40_3, T.fo_40_4, T.fo_40_5, T.fo_40_6, T.fo_40_7, T.fo_40_8, T.fo_40_9, T.gf_19, T.gf_20, T.gf_21, T.gf_22, T.gf_23, T.ib_25, T.ib_3, T.ii_32, T.ii_37, T.ii_38, T.ii_52, T.ii_9, T.ip_25, T.ip_3, T.pl_52, T.pl_56, T.s8_32, T.s8_37, T.s8_38, T.s8_52, T.s8_9, T.sl_32, T.sl_37, T.sl_38, T.sl_52, T.sl_9, T.st_32, T.st_37, T.st_38, T.st_52, T.st_9, T.un_32, T.un_37, T.un_38, T.un_52, T.un_9, T.zo_23, T.zo_36, T.zo_52, T.zo_56, q73, q74, q75, q5, q1, q8, c2, e1, hgq, h1', h2']
                  obtain ⟨H8, hH8⟩ : ∃ H8, (H7.alloc (.cells [.string (str []), .int .i64 0] .own)).put H7.next (.live (.cells [.string (str nm), .int .i64 ty] .own)) = H8 := ⟨_, rfl⟩
                  have hU78 : Upd H7 H8 [] := by rw [← hH8]; exact (Upd.alloc _ _ _).put (.inr (Nat.le_refl _))
                  have hn8 : H8.next = H7.next + 1 := by rw [← hH8]; rfl
                  have hg8 : H8.get H7.next = .live (.cells [.string (str nm), .int .i64 ty] .own) := by rw [← hH8, get_put, if_pos rfl]
                  rw [hH8]
                  clear hH8
                  have hB8 := hB7.new hU78
                  unfold qOk at hqo
                  simp only [Bool.and_eq_true, decide_eq_true_eq] at hqo
                  obtain ⟨ps, hps⟩ := Option.isSome_iff_exists.1 hqo.1
                  have hpd : partsD nm = ps := by unfold partsD; rw [hps]; rfl
                  rw [hpd] at hput
                  have hpl := putP_len ps t b
                  have hwl : (wireP ps).length ≤ 254 := by rw [wireP_len]; exact name_len hps
                  refine (Put_ph H8 pt M7 t v7 D7 b nm hB8.tb hB8.ob (fun d hd => (hB8.dD d hd).2) (by dsimp only at hq; omega) (by omega) (fun x hx => by have := ht7 x hx; omega)).mono fun u H9 hu => ?_
                  rw [hps] at hu
                  obtain ⟨w9, D9, M9, rfl, hT9, hO9, hD9, hM9, hU9⟩ := hu
                  have hB9 := hB8.put hT9 hO9 hD9 hM9 hU9
                  have hou9 := hO9.row.one
                  have hp7 := hB7.tb.1
                  have hm7 := hB7.tb.lt
                  have hd7 := hB7.ob.lt
                  have hg9 := (hU9.2 H7.next (by omega) (fun hh => by
                    simp at hh
                    rcases hh with h9 | h9 | h9
                    · omega
                    · have := hm7 _ h9; omega
                    · have := hd7 _ h9; omega)).trans hg8
                  simp (config := { dsimp := false, maxSteps := 10000000 }) (disch := omega) only [go_sem, reduceIte, Nat.reduceEqDiff, reduceCtorEq, Nat.reduceAdd, Nat.reduceMul, Int.reduceToNat, Int.reduceLE, Int.reduceLT, Int.reduceEq, Int.reduceNe, Nat.reduceLeDiff, Int.reducePow, Nat.reducePow, Nat.reduceLT, Nat.reduceSub, Nat.reduceMod, Nat.reduceDiv, slot_neg, slot_pos, T.ag_23, T.ag_3, T.ag_36, T.ag_37, T.ag_38, T.ag_4, T.ag_40, T.ag_9, T.ap_52, T.eb_32, T.eb_71, T.es_37, T.es_38, T.es_52, T.ez_32, T.ez_71, T.fo_23_0, T.fo_23_1, T.fo_23_2, T.fo_23_3, T.fo_36_0, T.fo_36_1, T.fo_40_0, T.fo_40_1, T.fo_40_10, T.fo_40_11, T.fo_40_2, T.fo_40_3, T.fo_40_4, T.fo_40_5, T.fo_40_6, T.fo_40_7, T.fo_40_8, T.fo_40_9, T.gf_19, T.gf_20, T.gf_21, T.gf_22, T.gf_23, T.ib_25, T.ib_3, T.ii_32, T.ii_37, T.ii_38, T.ii_52, T.ii_9, T.ip_25, T.ip_3, T.pl_52, T.pl_56, T.s8_32, T.s8_37, T.s8_38, T.s8_52, T.s8_9, T.sl_32, T.sl_37, T.sl_38, T.sl_52, T.sl_9, T.st_32, T.st_37, T.st_38, T.st_52, T.st_9, T.un_32, T.un_37, T.un_38, T.un_52, T.un_9, T.zo_23, T.zo_36, T.zo_52, T.zo_56, q73, q74, q75, q5, q1, q8, hg9, hou9.1, hou9.2]
                  refine (num_ph H9 w9 D9 _ ty 2 hO9 (by omega) (by omega)).mono fun u H10 ⟨D10, hO10, hD10, hU10⟩ => ?_
                  have hB10 := hB9.grow hO10 hD10 hU10
                  have hou10 := hO10.row.one
                  simp (config := { dsimp := false, maxSteps := 10000000 }) (disch := omega) only [go_sem, reduceIte, Nat.reduceEqDiff, reduceCtorEq, Nat.reduceAdd, Nat.reduceMul, Int.reduceToNat, Int.reduceLE, Int.reduceLT, Int.reduceEq, Int.reduceNe, Nat.reduceLeDiff, Int.reducePow, Nat.reducePow, Nat.reduceLT, Nat.reduceSub, Nat.reduceMod, Nat.reduceDiv, slot_neg, slot_pos, T.ag_23, T.ag_3, T.ag_36, T.ag_37, T.ag_38, T.ag_4, T.ag_40, T.ag_9, T.ap_52, T.eb_32, T.eb_71, T.es_37, T.es_38, T.es_52, T.ez_32, T.ez_71, T.fo_23_0, T.fo_23_1, T.fo_23_2, T.fo_23_3, T.fo_36_0, T.fo_36_1, T.fo_40_0, T.fo_40_1, T.fo_40_10, T.fo_40_11, T.fo_40_2, T.fo_40_3, T.fo_40_4, T.fo_40_5, T.fo_40_6, T.fo_40_7, T.fo_40_8, T.fo_40_9, T.gf_19, T.gf_20, T.gf_21, T.gf_22, T.gf_23, T.ib_25, T.ib_3, T.ii_32, T.ii_37, T.ii_38, T.ii_52, T.ii_9, T.ip_25, T.ip_3, T.pl_52, T.pl_56, T.s8_32, T.s8_37, T.s8_38, T.s8_52, T.s8_9, T.sl_32, T.sl_37, T.sl_38, T.sl_52, T.sl_9, T.st_32, T.st_37, T.st_38, T.st_52, T.st_9, T.un_32, T.un_37, T.un_38, T.un_52, T.un_9, T.zo_23, T.zo_36, T.zo_52, T.zo_56, hou10.1, hou10.2]
                  refine (num_ph H10 u D10 _ 1 2 hO10 (by simp only [List.length_append, numS_len]; omega) (by omega)).mono fun u H11 ⟨D11, hO11, hD11, hU11⟩ => ?_
                  have hB11 := hB10.grow hO11 hD11 hU11
                  have hou11 := hO11.row.one
                  simp (config := { dsimp := false, maxSteps := 10000000 }) (disch := omega) only [go_sem, reduceIte, Nat.reduceEqDiff, reduceCtorEq, Nat.reduceAdd, Nat.reduceMul, Int.reduceToNat, Int.reduceLE, Int.reduceLT, Int.reduceEq, Int.reduceNe, Nat.reduceLeDiff, Int.reducePow, Nat.reducePow, Nat.reduceLT, Nat.reduceSub, Nat.reduceMod, Nat.reduceDiv, slot_neg, slot_pos, T.ag_23, T.ag_3, T.ag_36, T.ag_37, T.ag_38, T.ag_4, T.ag_40, T.ag_9, T.ap_52, T.eb_32, T.eb_71, T.es_37, T.es_38, T.es_52, T.ez_32, T.ez_71, T.fo_23_0, T.fo_23_1, T.fo_23_2, T.fo_23_3, T.fo_36_0, T.fo_36_1, T.fo_40_0, T.fo_40_1, T.fo_40_10, T.fo_40_11, T.fo_40_2, T.fo_40_3, T.fo_40_4, T.fo_40_5, T.fo_40_6, T.fo_40_7, T.fo_40_8, T.fo_40_9, T.gf_19, T.gf_20, T.gf_21, T.gf_22, T.gf_23, T.ib_25, T.ib_3, T.ii_32, T.ii_37, T.ii_38, T.ii_52, T.ii_9, T.ip_25, T.ip_3, T.pl_52, T.pl_56, T.s8_32, T.s8_37, T.s8_38, T.s8_52, T.s8_9, T.sl_32, T.sl_37, T.sl_38, T.sl_52, T.sl_9, T.st_32, T.st_37, T.st_38, T.st_52, T.st_9, T.un_32, T.un_37, T.un_38, T.un_52, T.un_9, T.zo_23, T.zo_36, T.zo_52, T.zo_56, q73, q74, q75, hou11.1, hou11.2, wk]
                  refine ⟨⟨k + 1, _, _, hkl, rfl, ⟨u, D11, M9, by simp [upd], by simp [upd, q1], by simp [upd, q8], hB11, fun x hx => ?_⟩, hput, ?_⟩, by omega⟩
                  · have := hpl.2.2 ht7 x hx
                    simp only [List.length_append, numS_len]; omega
                  · simp only [List.length_append, numS_len]; omega
                · obtain rfl : k = m.ask.length := by omega
                  have c2 : ((m.ask.length : Int) < (m.ask.length : Int)) = False := eq_false (by omega)
                  rw [List.drop_length, putQs] at hput
                  simp (config := { dsimp := false, maxSteps := 10000000 }) (disch := omega) only [go_sem, reduceIte, Nat.reduceEqDiff, reduceCtorEq, Nat.reduceAdd, Nat.reduceMul, Int.reduceToNat, Int.reduceLE, Int.reduceLT, Int.reduceEq, Int.reduceNe, Nat.reduceLeDiff, Int.reducePow, Nat.reducePow, Nat.reduceLT, Nat.reduceSub, Nat.reduceMod, Nat.reduceDiv, slot_neg, slot_pos, T.ag_23, T.ag_3, T.ag_36, T.ag_37, T.ag_38, T.ag_4, T.ag_40, T.ag_9, T.ap_52, T.eb_32, T.eb_71, T.es_37, T.es_38, T.es_52, T.ez_32, T.ez_71, T.fo_23_0, T.fo_23_1, T.fo_23_2, T.fo_23_3, T.fo_36_0, T.fo_36_1, T.fo_40_0, T.fo_40_1, T.fo_40_10, T.fo_40_11, T.fo_40_2, T.fo_40_3, T.fo_40_4, T.fo_40_5, T.fo_40_6, T.fo_40_7, T.fo_40_8, T.fo_40_9, T.gf_19, T.gf_20, T.gf_21, T.gf_22, T.gf_23, T.ib_25, T.ib_3, T.ii_32, T.ii_37, T.ii_38, T.ii_52, T.ii_9, T.ip_25, T.ip_3, T.pl_52, T.pl_56, T.s8_32, T.s8_37, T.s8_38, T.s8_52, T.s8_9, T.sl_32, T.sl_37, T.sl_38, T.sl_52, T.sl_9, T.st_32, T.st_37, T.st_38, T.st_52, T.st_9, T.un_32, T.un_37, T.un_38, T.un_52, T.un_9, T.zo_23, T.zo_36, T.zo_52, T.zo_56, q73, q74, q75, c2]
                  exact ⟨t, b, ⟨v7, D7, M7, by simp [upd, q5], by simp [upd, q1], by simp [upd, q8], hB7, ht7⟩, hput, by omega⟩
            · rintro r H12 ⟨t, b, ⟨v12, D12, M12, q5, q1, q8, hB12, ht12⟩, hput, hbl⟩
              have hU12 := hB12.hU
              have hM12' := hM.upd hU12
              have hg12 := hB12.hg
              have hn12 := hB12.hn
              unfold MsgV.blk at hg12
              have e3 : repl 3 [Value.slice none 0 0] = [.slice none 0 0, .slice none 0 0, .slice none 0 0] := rfl
              have hal : m.all.length = m.a1.length + m.a2.length + m.a3.length := by simp [MsgV.all]; omega
              refine CodeH.seq (fun r H => ∃ t b, QS h H (m.blk sa s1 s2 s3) pt t b r ∧ m.raw = b ∧ b.length ≤ 1000000) (CodeH.of_vc [23] hm (by kernel_rfl) ?_) ?_
              · simp (config := { dsimp := false, maxSteps := 10000000 }) (disch := omega) only [go_sem, reduceIte, Nat.reduceEqDiff, reduceCtorEq, Nat.reduceAdd, Nat.reduceMul, Int.reduceToNat, Int.reduceLE, Int.reduceLT, Int.reduceEq, Int.reduceNe, Nat.reduceLeDiff, Int.reducePow, Nat.reducePow, Nat.reduceLT, Nat.reduceSub, Nat.reduceMod, Nat.reduceDiv, slot_neg, slot_pos, T.ag_23, T.ag_3, T.ag_36, T.ag_37, T.ag_38, T.ag_4, T.ag_40, T.ag_9, T.ap_52, T.eb_32, T.eb_71, T.es_37, T.es_38, T.es_52, T.ez_32, T.ez_71, T.fo_23_0, T.fo_23_1, T.fo_23_2, T.fo_23_3, T.fo_36_0, T.fo_36_1, T.fo_40_0, T.fo_40_1, T.fo_40_10, T.fo_40_11, T.fo_40_2, T.fo_40_3, T.fo_40_4, T.fo_40_5, T.fo_40_6, T.fo_40_7, T.fo_40_8, T.fo_40_9, T.gf_19, T.gf_20, T.gf_21, T.gf_22, T.gf_23, T.ib_25, T.ib_3, T.ii_32, T.ii_37, T.ii_38, T.ii_52, T.ii_9, T.ip_25, T.ip_3, T.pl_52, T.pl_56, T.s8_32, T.s8_37, T.s8_38, T.s8_52, T.s8_9, T.sl_32, T.sl_37, T.sl_38, T.sl_52, T.sl_9, T.st_32, T.st_37, T.st_38, T.st_52, T.st_9, T.un_32, T.un_37, T.un_38, T.un_52, T.un_9, T.zo_23, T.zo_36, T.zo_52, T.zo_56, q1, q5, q8, hg12, o1.1, o1.2, o2.1, o2.2, o3.1, o3.2, e3]
                have hUa : Upd H12 (H12.alloc (.cells [s1, s2, s3] .own)) [] := Upd.alloc _ _ _
                have hMa := hM12'.upd hUa
                refine (Concat_ph _ H12.next .own [s1, s2, s3] [m.a1, m.a2, m.a3] (by rw [get_alloc]; exact if_pos rfl) (Nat.lt_succ_self _) rfl (fun k s l hs hl => ?_) (by simp; omega) (by simp)).mono fun u H13 ⟨Dc, hOc, hDc, hU13⟩ => ?_
                · match k, hs, hl with
                  | 0, hs, hl => cases hs; cases hl; exact ⟨hMa.r1, hMa.l1⟩
                  | 1, hs, hl => cases hs; cases hl; exact ⟨hMa.r2, hMa.l2⟩
                  | 2, hs, hl => cases hs; cases hl; exact ⟨hMa.r3, hMa.l3⟩
                  | k + 3, hs, hl => simp at hs
                rw [all_three] at hOc
                have hB13 := hB12.new (hUa.trans hU13 (by simp))
                have houc := hOc.row.one
                simp (config := { dsimp := false, maxSteps := 10000000 }) (disch := omega) only [go_sem, reduceIte, Nat.reduceEqDiff, reduceCtorEq, Nat.reduceAdd, Nat.reduceMul, Int.reduceToNat, Int.reduceLE, Int.reduceLT, Int.reduceEq, Int.reduceNe, Nat.reduceLeDiff, Int.reducePow, Nat.reducePow, Nat.reduceLT, Nat.reduceSub, Nat.reduceMod, Nat.reduceDiv, slot_neg, slot_pos, T.ag_23, T.ag_3, T.ag_36, T.ag_37, T.ag_38, T.ag_4, T.ag_40, T.ag_9, T.ap_52, T.eb_32, T.eb_71, T.es_37, T.es_38, T.es_52, T.ez_32, T.ez_71, T.fo_23_0, T.fo_23_1, T.fo_23_2, T.fo_23_3, T.fo_36_0, T.fo_36_1, T.fo_40_0, T.fo_40_1, T.fo_40_10, T.fo_40_11, T.fo_40_2, T.fo_40_3, T.fo_40_4, T.fo_40_5, T.fo_40_6, T.fo_40_7, T.fo_40_8, T.fo_40_9, T.gf_19, T.gf_20, T.gf_21, T.gf_22, T.gf_23, T.ib_25, T.ib_3, T.ii_32, T.ii_37, T.ii_38, T.ii_52, T.ii_9, T.ip_25, T.ip_3, T.pl_52, T.pl_56, T.s8_32, T.s8_37, T.s8_38, T.s8_52, T.s8_9, T.sl_32, T.sl_37, T.sl_38, T.sl_52, T.sl_9, T.st_32, T.st_37, T.st_38, T.st_52, T.st_9, T.un_32, T.un_37, T.un_38, T.un_52, T.un_9, T.zo_23, T.zo_36, T.zo_52, T.zo_56, houc.1, houc.2, len_own hOc]
                have hDn : ∀ d ∈ Dc, H12.next ≤ d := fun d hd => Nat.le_trans (Nat.le_succ _) (hDc d hd)
                have hpt12 := hB12.tb.1
                refine loop_intro [23] hm (fun r H => ∃ k t b, k ≤ m.all.length ∧ r 100 = u ∧ r 101 = .int .i64 m.all.length ∧ r 102 = .int .i64 k ∧ (∃ v D M, r 5 = v ∧ r 1 = .pointer (some ⟨h.next, 0, none⟩) ∧ r 8 = .pointer (some ⟨pt, 0, none⟩) ∧ TB h H (m.blk sa s1 s2 s3) pt M D t v b ∧ (∀ x ∈ t, x.2 ≤ b.length) ∧ OwnRow recE H u Dc m.all ∧ ∀ d ∈ Dc, d ∉ D ∧ d ∉ M ∧ d ≠ pt) ∧ (putRs (putQs [] m.head m.ask).1 (putQs [] m.head m.ask).2 m.all) = putRs t b (m.all.drop k) ∧ b.length ≤ 100000 + 1300 * k) (fun r _ => match r 102 with | .int _ i => m.all.length - i.toNat | _ => 0) ?_ ?_
                · refine ⟨0, t, b, by omega, by simp [upd], by simp [upd], by simp [upd], ⟨v12, D12, M12, by simp [upd, q5], by simp [upd, q1], by simp [upd, q8], hB13, ht12, hOc, fun d hd => ?_⟩, by rw [hput]; rfl, by omega⟩
                  have h8 := hDn d hd
                  exact ⟨fun hh => by have := hB12.ob.lt d hh; omega, fun hh => by have := hB12.tb.lt d hh; omega, by omega⟩
                · rintro r H7 ⟨k, t, b, hk, q100, q101, q102, ⟨v7, D7, M7, q5, q1, q8, hB7, ht7, hOc7, hDc7⟩, hput, hbl⟩
                  have hou7 := hB7.ob.row.one
                  have hU7 := hB7.hU
                  by_cases hkl : k < m.all.length
                  · have c2 : ((k : Int) < (m.all.length : Int)) = True := eq_true (by omega)
                    have wk : IntKind.i64.wrap ((k : Int) + 1) = ((k + 1 : Nat) : Int) := by rw [i64wrap] <;> omega
                    have hx : m.all[k]? = some m.all[k] := List.getElem?_eq_getElem hkl
                    have hq := hS.r _ (List.getElem_mem hkl)
                    have hqo := List.all_eq_true.1 k6 _ (List.getElem_mem hkl)
                    rw [List.drop_eq_getElem_cons hkl, putRs] at hput
                    have hOc7' := hOc7
                    rcases hOc7 with ⟨_, h9, _⟩ | ⟨qa, off, vs, eDc, hqn, e1, hgq, hR⟩
                    · rw [h9] at hkl; simp at hkl
                    have ha := hR.at hx
                    generalize m.all[k] = rec at *
                    obtain ⟨nm, ty, tl, da⟩ := rec
                    have h1' : List.take 4 (List.drop (off + k * 4) vs) = [.string (str nm), .int .i64 ty, .int .i64 tl, .string (str da)] := ha.1
                    have h2' : off + k * 4 + 4 ≤ vs.length := ha.2
                    rw [show recE.k = 4 from rfl] at e1
                    simp (config := { dsimp := false, maxSteps := 10000000 }) (disch := omega) only [go_sem, reduceIte, Nat.reduceEqDiff, reduceCtorEq, Nat.reduceAdd, Nat.reduceMul, Int.reduceToNat, Int.reduceLE, Int.reduceLT, Int.reduceEq, Int.reduceNe, Nat.reduceLeDiff, Int.reducePow, Nat.reducePow, Nat.reduceLT, Nat.reduceSub, Nat.reduceMod, Nat.reduceDiv, slot_neg, slot_pos, T.ag_23, T.ag_3, T.ag_36, T.ag_37, T.ag_38, T.ag_4, T.ag_40, T.ag_9, T.ap_52, T.eb_32, T.eb_71, T.es_37, T.es_38, T.es_52, T.ez_32, T.ez_71, T.fo_23_0, T.fo_23_1, T.fo_23_2, T.fo_23_3, T.fo_36_0, T.fo_36_1, T.fo_40_0, T.fo_40_1, T.fo_40_10, T.fo_40_11, T.fo_40_2, T.fo_40_3, T.fo_40_4, T.fo_40_5, T.fo_40_6, T.fo_40_7, T.fo_40_8, T.fo_40_9, T.gf_19, T.gf_20, T.gf_21, T.gf_22, T.gf_23, T.ib_25, T.ib_3, T.ii_32, T.ii_37, T.ii_38, T.ii_52, T.ii_9, T.ip_25, T.ip_3, T.pl_52, T.pl_56, T.s8_32, T.s8_37, T.s8_38, T.s8_52, T.s8_9, T.sl_32, T.sl_37, T.sl_38, T.sl_52, T.sl_9, T.st_32, T.st_37, T.st_38, T.st_52, T.st_9, T.un_32, T.un_37, T.un_38, T.un_52, T.un_9, T.zo_23, T.zo_36, T.zo_52, T.zo_56, q100, q101, q102, q5, q1, q8, c2, e1, hgq, h1', h2']
                    obtain ⟨H8, hH8⟩ : ∃ H8, (H7.alloc (.cells [.string (str []), .int .i64 0, .int .i64 0, .string (str [])] .own)).put H7.next (.live (.cells [.string (str nm), .int .i64 ty, .int .i64 tl, .string (str da)] .own)) = H8 := ⟨_, rfl⟩
                    have hU78 : Upd H7 H8 [] := by rw [← hH8]; exact (Upd.alloc _ _ _).put (.inr (Nat.le_refl _))
                    have hn8 : H8.next = H7.next + 1 := by rw [← hH8]; rfl
                    have hg8 : H8.get H7.next = .live (.cells [.string (str nm), .int .i64 ty, .int .i64 tl, .string (str da)] .own) := by rw [← hH8, get_put, if_pos rfl]
                    rw [hH8]
                    clear hH8
                    have hB8 := hB7.new hU78
                    unfold recOk at hqo
                    simp only [Bool.and_eq_true, decide_eq_true_eq] at hqo
                    obtain ⟨ps, hps⟩ := Option.isSome_iff_exists.1 hqo.1
                    have hda : da.length ≤ 1000 := hqo.2.2.2.1
                    have hpd : partsD nm = ps := by unfold partsD; rw [hps]; rfl
                    dsimp only at hput hq
                    rw [hpd] at hput
                    have hpl := putP_len ps t b
                    have hwl : (wireP ps).length ≤ 254 := by rw [wireP_len]; exact name_len hps
                    refine (Put_ph H8 pt M7 t v7 D7 b nm hB8.tb hB8.ob (fun d hd => (hB8.dD d hd).2) (by omega) (by omega) (fun x hx => by have := ht7 x hx; omega)).mono fun u2 H9 hu => ?_
                    rw [hps] at hu
                    obtain ⟨w9, D9, M9, rfl, hT9, hO9, hD9, hM9, hU9⟩ := hu
                    have hB9 := hB8.put hT9 hO9 hD9 hM9 hU9
                    have hou9 := hO9.row.one
                    have hp7 := hB7.tb.1
                    have hm7 := hB7.tb.lt
                    have hd7 := hB7.ob.lt
                    have hc7 := hOc7'.lt
                    have hn9 := hU9.1
                    have hg9 := (hU9.2 H7.next (by omega) (fun hh => by
                      simp at hh
                      rcases hh with h9 | h9 | h9
                      · omega
                      · have := hm7 _ h9; omega
                      · have := hd7 _ h9; omega)).trans hg8
                    have nD9 : (H7.next ∈ D9) = False := eq_false fun hh => by
                      rcases (hD9 _ hh).1 with h9 | h9
                      · have := hd7 _ h9; omega
                      · omega
                    have hOc9 : OwnRow recE H9 u Dc m.all := (hOc7'.upd hU78 (by simp)).upd hU9 fun d hd hh => by
                      simp at hh
                      rcases hh with h9 | h9 | h9
                      · exact (hDc7 d hd).2.2 h9
                      · exact (hDc7 d hd).2.1 h9
                      · exact (hDc7 d hd).1 h9
                    have hDc9 : ∀ d ∈ Dc, d ∉ D9 ∧ d ∉ M9 ∧ d ≠ pt := fun d hd => by
                      have h8 := hc7 d hd
                      refine ⟨fun hh => ?_, fun hh => ?_, (hDc7 d hd).2.2⟩
                      · rcases (hD9 _ hh).1 with h9 | h9
                        · exact (hDc7 d hd).1 h9
                        · omega
                      · rcases hM9 _ hh with h9 | h9
                        · exact (hDc7 d hd).2.1 h9
                        · omega
                    simp (config := { dsimp := false, maxSteps := 10000000 }) (disch := omega) only [go_sem, reduceIte, Nat.reduceEqDiff, reduceCtorEq, Nat.reduceAdd, Nat.reduceMul, Int.reduceToNat, Int.reduceLE, Int.reduceLT, Int.reduceEq, Int.reduceNe, Nat.reduceLeDiff, Int.reducePow, Nat.reducePow, Nat.reduceLT, Nat.reduceSub, Nat.reduceMod, Nat.reduceDiv, slot_neg, slot_pos, T.ag_23, T.ag_3, T.ag_36, T.ag_37, T.ag_38, T.ag_4, T.ag_40, T.ag_9, T.ap_52, T.eb_32, T.eb_71, T.es_37, T.es_38, T.es_52, T.ez_32, T.ez_71, T.fo_23_0, T.fo_23_1, T.fo_23_2, T.fo_23_3, T.fo_36_0, T.fo_36_1, T.fo_40_0, T.fo_40_1, T.fo_40_10, T.fo_40_11, T.fo_40_2, T.fo_40_3, T.fo_40_4, T.fo_40_5, T.fo_40_6, T.fo_40_7, T.fo_40_8, T.fo_40_9, T.gf_19, T.gf_20, T.gf_21, T.gf_22, T.gf_23, T.ib_25, T.ib_3, T.ii_32, T.ii_37, T.ii_38, T.ii_52, T.ii_9, T.ip_25, T.ip_3, T.pl_52, T.pl_56, T.s8_32, T.s8_37, T.s8_38, T.s8_52, T.s8_9, T.sl_32, T.sl_37, T.sl_38, T.sl_52, T.sl_9, T.st_32, T.st_37, T.st_38, T.st_52, T.st_9, T.un_32, T.un_37, T.un_38, T.un_52, T.un_9, T.zo_23, T.zo_36, T.zo_52, T.zo_56, q100, q101, q102, q5, q1, q8, hg9, hou9.1, hou9.2]
                    refine draw_plan D9 (.takeS 0 (.takeS 1 (.takeS 2 (.take 5 (.take 6 (.take 8 (.take 9 (.take 10 (.alt 3 (.alt 4 (.alt 7 (.alt 11 (.takeS 12 .done) .stop) .stop) .stop) .stop))))))))) hm (by kernel_rfl) (by kernel_rfl) ?_
                    simp (config := { dsimp := false, maxSteps := 10000000 }) (disch := omega) only [go_sem, reduceIte, Nat.reduceEqDiff, reduceCtorEq, Nat.reduceAdd, Nat.reduceMul, Int.reduceToNat, Int.reduceLE, Int.reduceLT, Int.reduceEq, Int.reduceNe, Nat.reduceLeDiff, Int.reducePow, Nat.reducePow, Nat.reduceLT, Nat.reduceSub, Nat.reduceMod, Nat.reduceDiv, slot_neg, slot_pos, T.ag_23, T.ag_3, T.ag_36, T.ag_37, T.ag_38, T.ag_4, T.ag_40, T.ag_9, T.ap_52, T.eb_32, T.eb_71, T.es_37, T.es_38, T.es_52, T.ez_32, T.ez_71, T.fo_23_0, T.fo_23_1, T.fo_23_2, T.fo_23_3, T.fo_36_0, T.fo_36_1, T.fo_40_0, T.fo_40_1, T.fo_40_10, T.fo_40_11, T.fo_40_2, T.fo_40_3, T.fo_40_4, T.fo_40_5, T.fo_40_6, T.fo_40_7, T.fo_40_8, T.fo_40_9, T.gf_19, T.gf_20, T.gf_21, T.gf_22, T.gf_23, T.ib_25, T.ib_3, T.ii_32, T.ii_37, T.ii_38, T.ii_52, T.ii_9, T.ip_25, T.ip_3, T.pl_52, T.pl_56, T.s8_32, T.s8_37, T.s8_38, T.s8_52, T.s8_9, T.sl_32, T.sl_37, T.sl_38, T.sl_52, T.sl_9, T.st_32, T.st_37, T.st_38, T.st_52, T.st_9, T.un_32, T.un_37, T.un_38, T.un_52, T.un_9, T.zo_23, T.zo_36, T.zo_52, T.zo_56, q100, q101, q102, q5, q1, q8, hg9, nD9, lock_live', lock_cells, lk_own, hou9.1, hou9.2]
                    have pn9 : H7.next < H9.next := by omega
                    have gm : (H9.mask D9).get H7.next = .live (.cells [.string (str nm), .int .i64 ty, .int .i64 tl, .string (str da)] .lock) := by
                      rw [get_mask, if_neg (fun hh => by rw [nD9] at hh; exact hh), hg9]; rfl
                    have lp := numS_len
                    refine ⟨by omega, by omega, (num_ph (H9.mask D9) w9 D9 _ ty 2 (hO9.maskW fun d hd => hd) (by omega) (by omega)).mono fun y1 X1 ⟨E1, hE1, hF1, hV1⟩ => ?_⟩
                    have g1 := (hV1.2 H7.next pn9 (fun hh => by rw [nD9] at hh; exact hh)).trans gm
                    have e1n : H9.next ≤ X1.next := hV1.1
                    have hy1 := hE1.row.one
                    simp (config := { dsimp := false, maxSteps := 10000000 }) (disch := omega) only [go_sem, reduceIte, Nat.reduceEqDiff, reduceCtorEq, Nat.reduceAdd, Nat.reduceMul, Int.reduceToNat, Int.reduceLE, Int.reduceLT, Int.reduceEq, Int.reduceNe, Nat.reduceLeDiff, Int.reducePow, Nat.reducePow, Nat.reduceLT, Nat.reduceSub, Nat.reduceMod, Nat.reduceDiv, slot_neg, slot_pos, T.ag_23, T.ag_3, T.ag_36, T.ag_37, T.ag_38, T.ag_4, T.ag_40, T.ag_9, T.ap_52, T.eb_32, T.eb_71, T.es_37, T.es_38, T.es_52, T.ez_32, T.ez_71, T.fo_23_0, T.fo_23_1, T.fo_23_2, T.fo_23_3, T.fo_36_0, T.fo_36_1, T.fo_40_0, T.fo_40_1, T.fo_40_10, T.fo_40_11, T.fo_40_2, T.fo_40_3, T.fo_40_4, T.fo_40_5, T.fo_40_6, T.fo_40_7, T.fo_40_8, T.fo_40_9, T.gf_19, T.gf_20, T.gf_21, T.gf_22, T.gf_23, T.ib_25, T.ib_3, T.ii_32, T.ii_37, T.ii_38, T.ii_52, T.ii_9, T.ip_25, T.ip_3, T.pl_52, T.pl_56, T.s8_32, T.s8_37, T.s8_38, T.s8_52, T.s8_9, T.sl_32, T.sl_37, T.sl_38, T.sl_52, T.sl_9, T.st_32, T.st_37, T.st_38, T.st_52, T.st_9, T.un_32, T.un_37, T.un_38, T.un_52, T.un_9, T.zo_23, T.zo_36, T.zo_52, T.zo_56, hy1.1, hy1.2, g1]
                    have f1 : ∀ d ∈ E1, d ≠ H7.next := fun d hd e => by
                      rcases hF1 d hd with h9 | h9
                      · rw [e] at h9; rw [nD9] at h9; exact h9
                      · have h8 : H9.next ≤ d := h9; omega
                    refine (num_ph X1 y1 E1 _ 1 2 hE1 (by simp only [List.length_append, numS_len]; omega) (by omega)).mono fun y2 X2 ⟨E2, hE2, hF2, hV2⟩ => ?_
                    have g2 := (hV2.2 H7.next (by omega) (fun hh => f1 _ hh rfl)).trans g1
                    have e2n := hV2.1
                    have hy2 := hE2.row.one
                    simp (config := { dsimp := false, maxSteps := 10000000 }) (disch := omega) only [go_sem, reduceIte, Nat.reduceEqDiff, reduceCtorEq, Nat.reduceAdd, Nat.reduceMul, Int.reduceToNat, Int.reduceLE, Int.reduceLT, Int.reduceEq, Int.reduceNe, Nat.reduceLeDiff, Int.reducePow, Nat.reducePow, Nat.reduceLT, Nat.reduceSub, Nat.reduceMod, Nat.reduceDiv, slot_neg, slot_pos, T.ag_23, T.ag_3, T.ag_36, T.ag_37, T.ag_38, T.ag_4, T.ag_40, T.ag_9, T.ap_52, T.eb_32, T.eb_71, T.es_37, T.es_38, T.es_52, T.ez_32, T.ez_71, T.fo_23_0, T.fo_23_1, T.fo_23_2, T.fo_23_3, T.fo_36_0, T.fo_36_1, T.fo_40_0, T.fo_40_1, T.fo_40_10, T.fo_40_11, T.fo_40_2, T.fo_40_3, T.fo_40_4, T.fo_40_5, T.fo_40_6, T.fo_40_7, T.fo_40_8, T.fo_40_9, T.gf_19, T.gf_20, T.gf_21, T.gf_22, T.gf_23, T.ib_25, T.ib_3, T.ii_32, T.ii_37, T.ii_38, T.ii_52, T.ii_9, T.ip_25, T.ip_3, T.pl_52, T.pl_56, T.s8_32, T.s8_37, T.s8_38, T.s8_52, T.s8_9, T.sl_32, T.sl_37, T.sl_38, T.sl_52, T.sl_9, T.st_32, T.st_37, T.st_38, T.st_52, T.st_9, T.un_32, T.un_37, T.un_38, T.un_52, T.un_9, T.zo_23, T.zo_36, T.zo_52, T.zo_56, hy2.1, hy2.2, g2]
                    have f2 : ∀ d ∈ E2, d ∈ D9 ∨ H9.next ≤ d := fun d hd => by
                      rcases hF2 d hd with h9 | h9
                      · exact hF1 d h9
                      · right; omega
                    have f2' : ∀ d ∈ E2, d ≠ H7.next := fun d hd e => by
                      rcases f2 d hd with h9 | h9
                      · rw [e] at h9; rw [nD9] at h9; exact h9
                      · omega
                    refine (num_ph X2 y2 E2 _ tl 4 hE2 (by simp only [List.length_append, numS_len]; omega) (by omega)).mono fun y3 X3 ⟨E3, hE3, hF3, hV3⟩ => ?_
                    have g3 := (hV3.2 H7.next (by omega) (fun hh => f2' _ hh rfl)).trans g2
                    have e3n := hV3.1
                    have hy3 := hE3.row.one
                    have f3 : ∀ d ∈ E3, d ∈ D9 ∨ H9.next ≤ d := fun d hd => by
                      rcases hF3 d hd with h9 | h9
                      · exact f2 d h9
                      · right; omega
                    simp (config := { dsimp := false, maxSteps := 10000000 }) (disch := omega) only [go_sem, reduceIte, Nat.reduceEqDiff, reduceCtorEq, Nat.reduceAdd, Nat.reduceMul, Int.reduceToNat, Int.reduceLE, Int.reduceLT, Int.reduceEq, Int.reduceNe, Nat.reduceLeDiff, Int.reducePow, Nat.reducePow, Nat.reduceLT, Nat.reduceSub, Nat.reduceMod, Nat.reduceDiv, slot_neg, slot_pos, T.ag_23, T.ag_3, T.ag_36, T.ag_37, T.ag_38, T.ag_4, T.ag_40, T.ag_9, T.ap_52, T.eb_32, T.eb_71, T.es_37, T.es_38, T.es_52, T.ez_32, T.ez_71, T.fo_23_0, T.fo_23_1, T.fo_23_2, T.fo_23_3, T.fo_36_0, T.fo_36_1, T.fo_40_0, T.fo_40_1, T.fo_40_10, T.fo_40_11, T.fo_40_2, T.fo_40_3, T.fo_40_4, T.fo_40_5, T.fo_40_6, T.fo_40_7, T.fo_40_8, T.fo_40_9, T.gf_19, T.gf_20, T.gf_21, T.gf_22, T.gf_23, T.ib_25, T.ib_3, T.ii_32, T.ii_37, T.ii_38, T.ii_52, T.ii_9, T.ip_25, T.ip_3, T.pl_52, T.pl_56, T.s8_32, T.s8_37, T.s8_38, T.s8_52, T.s8_9, T.sl_32, T.sl_37, T.sl_38, T.sl_52, T.sl_9, T.st_32, T.st_37, T.st_38, T.st_52, T.st_9, T.un_32, T.un_37, T.un_38, T.un_52, T.un_9, T.zo_23, T.zo_36, T.zo_52, T.zo_56, hy3.1, hy3.2, g3]
                    refine (num_ph X3 y3 E3 _ da.length 2 hE3 (by simp only [List.length_append, numS_len]; omega) (by omega)).mono fun y4 X4 ⟨E4, hE4, hF4, hV4⟩ => ?_
                    have e4n := hV4.1
                    have hy4 := hE4.row.one
                    have f4 : ∀ d ∈ E4, d ∈ D9 ∨ H9.next ≤ d := fun d hd => by
                      rcases hF4 d hd with h9 | h9
                      · exact f3 d h9
                      · right; omega
                    have hB10 := hB9.grow (H' := H9.unmask D9 X4) (hE4.unmaskW f4) f4 ⟨by rw [next_unmask]; omega, fun d h1 h2 => by rw [get_unmask, if_pos ⟨h1, h2⟩]⟩
                    have g10 : (H9.unmask D9 X4).get H7.next = .live (.cells [.string (str nm), .int .i64 ty, .int .i64 tl, .string (str da)] .own) := by rw [get_unmask, if_pos ⟨pn9, fun hh => by rw [nD9] at hh; exact hh⟩]; exact hg9
                    have hOc10 : OwnRow recE (H9.unmask D9 X4) u Dc m.all := hOc9.keep (by rw [next_unmask]; omega) fun d hd => by rw [get_unmask, if_pos ⟨hOc9.lt d hd, (hDc9 d hd).1⟩]
                    have hn10 : (H9.unmask D9 X4).next = X4.next := next_unmask
                    have pn9' := eq_true pn9
                    simp (config := { dsimp := false, maxSteps := 10000000 }) (disch := omega) only [go_sem, reduceIte, Nat.reduceEqDiff, reduceCtorEq, Nat.reduceAdd, Nat.reduceMul, Int.reduceToNat, Int.reduceLE, Int.reduceLT, Int.reduceEq, Int.reduceNe, Nat.reduceLeDiff, Int.reducePow, Nat.reducePow, Nat.reduceLT, Nat.reduceSub, Nat.reduceMod, Nat.reduceDiv, slot_neg, slot_pos, T.ag_23, T.ag_3, T.ag_36, T.ag_37, T.ag_38, T.ag_4, T.ag_40, T.ag_9, T.ap_52, T.eb_32, T.eb_71, T.es_37, T.es_38, T.es_52, T.ez_32, T.ez_71, T.fo_23_0, T.fo_23_1, T.fo_23_2, T.fo_23_3, T.fo_36_0, T.fo_36_1, T.fo_40_0, T.fo_40_1, T.fo_40_10, T.fo_40_11, T.fo_40_2, T.fo_40_3, T.fo_40_4, T.fo_40_5, T.fo_40_6, T.fo_40_7, T.fo_40_8, T.fo_40_9, T.gf_19, T.gf_20, T.gf_21, T.gf_22, T.gf_23, T.ib_25, T.ib_3, T.ii_32, T.ii_37, T.ii_38, T.ii_52, T.ii_9, T.ip_25, T.ip_3, T.pl_52, T.pl_56, T.s8_32, T.s8_37, T.s8_38, T.s8_52, T.s8_9, T.sl_32, T.sl_37, T.sl_38, T.sl_52, T.sl_9, T.st_32, T.st_37, T.st_38, T.st_52, T.st_9, T.un_32, T.un_37, T.un_38, T.un_52, T.un_9, T.zo_23, T.zo_36, T.zo_52, T.zo_56, hy4.1, hy4.2, nD9, hg9, pn9', bc_one]
                    refine app_own (E := u8E) (ns := da) hB10.ob rfl (u8_flat da).symm rfl (by simp only [List.length_append, numS_len]; omega) fun u5 H11 D11 hO11 hU11 hD11 => ?_
                    have hB11 := hB10.grow hO11 hD11 hU11
                    have hou11 := hO11.row.one
                    have hOc11 := hOc10.upd hU11 fun d hd hh => by
                      rcases f4 d hh with h9 | h9
                      · exact (hDc9 d hd).1 h9
                      · have := hOc9.lt d hd; omega
                    simp (config := { dsimp := false, maxSteps := 10000000 }) (disch := omega) only [go_sem, reduceIte, Nat.reduceEqDiff, reduceCtorEq, Nat.reduceAdd, Nat.reduceMul, Int.reduceToNat, Int.reduceLE, Int.reduceLT, Int.reduceEq, Int.reduceNe, Nat.reduceLeDiff, Int.reducePow, Nat.reducePow, Nat.reduceLT, Nat.reduceSub, Nat.reduceMod, Nat.reduceDiv, slot_neg, slot_pos, T.ag_23, T.ag_3, T.ag_36, T.ag_37, T.ag_38, T.ag_4, T.ag_40, T.ag_9, T.ap_52, T.eb_32, T.eb_71, T.es_37, T.es_38, T.es_52, T.ez_32, T.ez_71, T.fo_23_0, T.fo_23_1, T.fo_23_2, T.fo_23_3, T.fo_36_0, T.fo_36_1, T.fo_40_0, T.fo_40_1, T.fo_40_10, T.fo_40_11, T.fo_40_2, T.fo_40_3, T.fo_40_4, T.fo_40_5, T.fo_40_6, T.fo_40_7, T.fo_40_8, T.fo_40_9, T.gf_19, T.gf_20, T.gf_21, T.gf_22, T.gf_23, T.ib_25, T.ib_3, T.ii_32, T.ii_37, T.ii_38, T.ii_52, T.ii_9, T.ip_25, T.ip_3, T.pl_52, T.pl_56, T.s8_32, T.s8_37, T.s8_38, T.s8_52, T.s8_9, T.sl_32, T.sl_37, T.sl_38, T.sl_52, T.sl_9, T.st_32, T.st_37, T.st_38, T.st_52, T.st_9, T.un_32, T.un_37, T.un_38, T.un_52, T.un_9, T.zo_23, T.zo_36, T.zo_52, T.zo_56, q100, q101, q102, hou11.1, hou11.2, wk]
                    refine ⟨⟨k + 1, (putP t b ps).1, (putP t b ps).2 ++ numS ty 2 ++ numS 1 2 ++ numS tl 4 ++ numS da.length 2 ++ da, hkl, rfl, ⟨u5, D11, M9, by simp [upd], by simp [upd, q1], by simp [upd, q8], hB11, fun x hx => ?_, hOc11, fun d hd => ?_⟩, hput, ?_⟩, by omega⟩
                    · have := hpl.2.2 ht7 x hx
                      simp only [List.length_append, numS_len]; omega
                    · have h8 := hOc9.lt d hd
                      refine ⟨fun hh => ?_, (hDc9 d hd).2.1, (hDc9 d hd).2.2⟩
                      rcases hD11 d hh with h9 | h9
                      · rcases f4 d h9 with h7 | h7
                        · exact (hDc9 d hd).1 h7
                        · omega
                      · omega
                    · simp only [List.length_append, numS_len]; omega
                  · obtain rfl : k = m.all.length := by omega
                    have c2 : ((m.all.length : Int) < (m.all.length : Int)) = False := eq_false (by omega)
                    rw [List.drop_length, putRs] at hput
                    simp (config := { dsimp := false, maxSteps := 10000000 }) (disch := omega) only [go_sem, reduceIte, Nat.reduceEqDiff, reduceCtorEq, Nat.reduceAdd, Nat.reduceMul, Int.reduceToNat, Int.reduceLE, Int.reduceLT, Int.reduceEq, Int.reduceNe, Nat.reduceLeDiff, Int.reducePow, Nat.reducePow, Nat.reduceLT, Nat.reduceSub, Nat.reduceMod, Nat.reduceDiv, slot_neg, slot_pos, T.ag_23, T.ag_3, T.ag_36, T.ag_37, T.ag_38, T.ag_4, T.ag_40, T.ag_9, T.ap_52, T.eb_32, T.eb_71, T.es_37, T.es_38, T.es_52, T.ez_32, T.ez_71, T.fo_23_0, T.fo_23_1, T.fo_23_2, T.fo_23_3, T.fo_36_0, T.fo_36_1, T.fo_40_0, T.fo_40_1, T.fo_40_10, T.fo_40_11, T.fo_40_2, T.fo_40_3, T.fo_40_4, T.fo_40_5, T.fo_40_6, T.fo_40_7, T.fo_40_8, T.fo_40_9, T.gf_19, T.gf_20, T.gf_21, T.gf_22, T.gf_23, T.ib_25, T.ib_3, T.ii_32, T.ii_37, T.ii_38, T.ii_52, T.ii_9, T.ip_25, T.ip_3, T.pl_52, T.pl_56, T.s8_32, T.s8_37, T.s8_38, T.s8_52, T.s8_9, T.sl_32, T.sl_37, T.sl_38, T.sl_52, T.sl_9, T.st_32, T.st_37, T.st_38, T.st_52, T.st_9, T.un_32, T.un_37, T.un_38, T.un_52, T.un_9, T.zo_23, T.zo_36, T.zo_52, T.zo_56, q100, q101, q102, c2]
                    refine ⟨t, b, ⟨v7, D7, M7, by simp [upd, q5], by simp [upd, q1], by simp [upd, q8], hB7, ht7⟩, ?_, by omega⟩
                    rw [MsgV.raw, hput]
              · rintro r H14 ⟨t, b, ⟨v14, D14, M14, q5, q1, q8, hB14, ht14⟩, hraw, hbl⟩
                have hou14 := hB14.ob.row.one
                refine CodeH.of_vc [] hm (by kernel_rfl) ?_
                have hput : m.put = if 65535 < b.length then ([], 5) else (b, 0) := by unfold MsgV.put; rw [if_neg (by simp [he]), hraw]
                by_cases hbig : 65535 < b.length
                · have c2 : ((65535 : Int) < (b.length : Int)) = True := eq_true (by omega)
                  rw [if_pos hbig] at hput
                  simp (config := { dsimp := false, maxSteps := 10000000 }) (disch := omega) only [go_sem, reduceIte, Nat.reduceEqDiff, reduceCtorEq, Nat.reduceAdd, Nat.reduceMul, Int.reduceToNat, Int.reduceLE, Int.reduceLT, Int.reduceEq, Int.reduceNe, Nat.reduceLeDiff, Int.reducePow, Nat.reducePow, Nat.reduceLT, Nat.reduceSub, Nat.reduceMod, Nat.reduceDiv, slot_neg, slot_pos, T.ag_23, T.ag_3, T.ag_36, T.ag_37, T.ag_38, T.ag_4, T.ag_40, T.ag_9, T.ap_52, T.eb_32, T.eb_71, T.es_37, T.es_38, T.es_52, T.ez_32, T.ez_71, T.fo_23_0, T.fo_23_1, T.fo_23_2, T.fo_23_3, T.fo_36_0, T.fo_36_1, T.fo_40_0, T.fo_40_1, T.fo_40_10, T.fo_40_11, T.fo_40_2, T.fo_40_3, T.fo_40_4, T.fo_40_5, T.fo_40_6, T.fo_40_7, T.fo_40_8, T.fo_40_9, T.gf_19, T.gf_20, T.gf_21, T.gf_22, T.gf_23, T.ib_25, T.ib_3, T.ii_32, T.ii_37, T.ii_38, T.ii_52, T.ii_9, T.ip_25, T.ip_3, T.pl_52, T.pl_56, T.s8_32, T.s8_37, T.s8_38, T.s8_52, T.s8_9, T.sl_32, T.sl_37, T.sl_38, T.sl_52, T.sl_9, T.st_32, T.st_37, T.st_38, T.st_52, T.st_9, T.un_32, T.un_37, T.un_38, T.un_52, T.un_9, T.zo_23, T.zo_36, T.zo_52, T.zo_56, q5, len_own hB14.ob, c2]
                  rw [PutR, hput]
                  exact ⟨hB14.hU, fun e => absurd e (by decide), fun _ => rfl⟩
                · have c2 : ((65535 : Int) < (b.length : Int)) = False := eq_false (by omega)
                  rw [if_neg hbig] at hput
                  simp (config := { dsimp := false, maxSteps := 10000000 }) (disch := omega) only [go_sem, reduceIte, Nat.reduceEqDiff, reduceCtorEq, Nat.reduceAdd, Nat.reduceMul, Int.reduceToNat, Int.reduceLE, Int.reduceLT, Int.reduceEq, Int.reduceNe, Nat.reduceLeDiff, Int.reducePow, Nat.reducePow, Nat.reduceLT, Nat.reduceSub, Nat.reduceMod, Nat.reduceDiv, slot_neg, slot_pos, T.ag_23, T.ag_3, T.ag_36, T.ag_37, T.ag_38, T.ag_4, T.ag_40, T.ag_9, T.ap_52, T.eb_32, T.eb_71, T.es_37, T.es_38, T.es_52, T.ez_32, T.ez_71, T.fo_23_0, T.fo_23_1, T.fo_23_2, T.fo_23_3, T.fo_36_0, T.fo_36_1, T.fo_40_0, T.fo_40_1, T.fo_40_10, T.fo_40_11, T.fo_40_2, T.fo_40_3, T.fo_40_4, T.fo_40_5, T.fo_40_6, T.fo_40_7, T.fo_40_8, T.fo_40_9, T.gf_19, T.gf_20, T.gf_21, T.gf_22, T.gf_23, T.ib_25, T.ib_3, T.ii_32, T.ii_37, T.ii_38, T.ii_52, T.ii_9, T.ip_25, T.ip_3, T.pl_52, T.pl_56, T.s8_32, T.s8_37, T.s8_38, T.s8_52, T.s8_9, T.sl_32, T.sl_37, T.sl_38, T.sl_52, T.sl_9, T.st_32, T.st_37, T.st_38, T.st_52, T.st_9, T.un_32, T.un_37, T.un_38, T.un_52, T.un_9, T.zo_23, T.zo_36, T.zo_52, T.zo_56, q5, len_own hB14.ob, c2, hou14.1, hou14.2]
                  rw [PutR, hput]
                  exact ⟨hB14.hU, fun _ => ⟨v14, D14, rfl, hB14.ob, fun d hd => Nat.le_of_lt (hB14.dD d hd).1⟩, fun e => absurd rfl e⟩
  · have c1 : (m.err = 0) = False := eq_false he
    simp (config := { dsimp := false, maxSteps := 10000000 }) (disch := omega) only [go_sem, reduceIte, Nat.reduceEqDiff, reduceCtorEq, Nat.reduceAdd, Nat.reduceMul, Int.reduceToNat, Int.reduceLE, Int.reduceLT, Int.reduceEq, Int.reduceNe, Nat.reduceLeDiff, Int.reducePow, Nat.reducePow, Nat.reduceLT, Nat.reduceSub, Nat.reduceMod, Nat.reduceDiv, slot_neg, slot_pos, T.ag_23, T.ag_3, T.ag_36, T.ag_37, T.ag_38, T.ag_4, T.ag_40, T.ag_9, T.ap_52, T.eb_32, T.eb_71, T.es_37, T.es_38, T.es_52, T.ez_32, T.ez_71, T.fo_23_0, T.fo_23_1, T.fo_23_2, T.fo_23_3, T.fo_36_0, T.fo_36_1, T.fo_40_0, T.fo_40_1, T.fo_40_10, T.fo_40_11, T.fo_40_2, T.fo_40_3, T.fo_40_4, T.fo_40_5, T.fo_40_6, T.fo_40_7, T.fo_40_8, T.fo_40_9, T.gf_19, T.gf_20, T.gf_21, T.gf_22, T.gf_23, T.ib_25, T.ib_3, T.ii_32, T.ii_37, T.ii_38, T.ii_52, T.ii_9, T.ip_25, T.ip_3, T.pl_52, T.pl_56, T.s8_32, T.s8_37, T.s8_38, T.s8_52, T.s8_9, T.sl_32, T.sl_37, T.sl_38, T.sl_52, T.sl_9, T.st_32, T.st_37, T.st_38, T.st_52, T.st_9, T.un_32, T.un_37, T.un_38, T.un_52, T.un_9, T.zo_23, T.zo_36, T.zo_52, T.zo_56, c1]
    rw [PutR, put_err he]
    exact ⟨hUU, fun e => absurd e he, fun _ => rfl⟩
end Ph
