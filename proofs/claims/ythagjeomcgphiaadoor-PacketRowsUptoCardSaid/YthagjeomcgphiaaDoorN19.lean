import Derived.Test.YthagjeomcgphiaaDoorN45
set_option maxRecDepth 100000
set_option linter.unusedSimpArgs false
set_option linter.unusedVariables false
namespace Ph
open Go Go.Proofs
attribute [local irreducible] Value.cells
attribute [local go_sem ↓] s_move s_assign s_pick s_nil s_bin s_un s_fa s_field s_ext s_ia s_ix s_slice s_conv s_build s_bs s_mf s_alloc s_box s_load s_store s_len s_min s_max s_app s_call q_call q_move q_assign q_pick q_nil q_bin q_un q_fa q_field q_ext q_ia q_ix q_slice q_conv q_build q_mf q_load q_len q_min q_max l_nil l_move l_assign l_pick l_nilc l_bin l_un l_fa l_field l_ext l_ia l_ix l_slice l_conv l_build l_mf l_load l_len l_min l_max l_call put_eq putN_eq o_nil o_plain o_gate v_nil v_plain v_gate vc_skip vc_region vc_seq vc_cond vc_block vc_loop vc_exit vc_ret blk_normal blk_ret blk_exit on_normal on_ret on_exit vc_drawn draw_q s_mk l_bs l_mk l_alloc l_box l_store l_app pl_done pl_take pl_alt pl_stop one_plain one_gate
attribute [local go_sem] onAgg_a onTuple_t onFunc_f c_int c_nil c_sl c_str sl_sl sl_nil sl_str ix_str ix_agg n_nil n_sl n_str app_eq k_nil k_sl len_sl len_str upd_some upd_none ev_tmp ev_const ev_func rd_some gdst_eq otmp_t otmp_c get_put get_alloc next_put next_alloc get_app next_app init_a resV1 resV2 onPtr_ptr onBool_b onInt_i onSlice_s onSome_s onCells_c lett_eq gate_tt gate_tf gate_ff gate_ft gate_dt gate_df also_eq bin un minmax io_none io_some bo_none bo_some partOf List.getElem?_cons_zero List.getElem?_cons_succ List.getElem?_toArray Option.map_some Option.map_none Option.bind_some ne_eq not_true_eq_false not_false_eq_true false_implies true_implies and_true true_and and_self Bool.false_eq_true Nat.zero_add Nat.add_zero List.size_toArray List.length_cons List.length_nil List.map_toArray List.map_cons List.map_nil Array.getD_eq_getD_getElem? Option.getD_some Bool.not_true Bool.not_false Bool.not_eq_true Option.isNone_some Option.isNone_none List.append_toArray List.append_nil List.nil_append List.cons_append decide_true decide_false in_nil in_cons Bool.and_false Bool.and_true Bool.or_false Bool.true_or Bool.false_or get_mask next_mask get_unmask next_unmask ac_move ac_assign ac_pick ac_nil ac_bin ac_un ac_fa ac_field ac_ext ac_ia ac_ix ac_slice ac_build ac_mf ac_call ac_load ac_conv accP_p accS_s accS_n accS_i accS_t fixed_ro fixed_lock fixed_own get_ro next_ro lock_live' lock_cells List.mem_cons List.not_mem_nil or_false false_or or_true true_or and_false false_and IntKind.bits Int.natCast_zero Int.natCast_one size_str data_str list_str mk_str ext_str app_str bytes_str w_byte w_byteu Int.toNat_natCast Int.toNat_zero Int.toNat_one Nat.sub_zero ge_iff_le gt_iff_lt Nat.le_refl Int.le_refl List.drop_zero Int.ofNat_eq_natCast Int.natCast_nonneg Int.sub_zero oc_int oc_bool oc_str oc_ptr oc_sl oc_map oc_func List.set_cons_zero List.set_cons_succ Nat.mul_one List.all_cons List.all_nil Bool.and_self res_nil res_tmp res_cell tup_one tup_two tup_nil fill_nil repl_zero cells_agg List.append_eq List.toList_toArray Nat.zero_mul Nat.one_mul repl_one repl_two onSome_build fill_cons onSome_lit splice_eq cells_int cells_bool cells_str cells_ptr cells_sl cells_map cells_func loadK_n loadK_s load_k storeK_n storeK_s store_k all_arr List.take_zero List.take_succ_cons List.drop_succ_cons List.take_nil List.drop_nil lk_own lk_ro lk_lock lk_lk fixed_lk gate_nt gate_nf gate3_b gate3_u undef Bool.true_and Bool.false_and nx_l nx_r nx_lt
def getP (l : List UInt8) (own : Int) : GetR :=
  if own < 0 ∨ 20 < own then noneR 1 else
  match l with
  | [] => noneR 3
  | b :: t => if 128 ≤ b.toNat then getL b t else if b.toNat / 64 % 2 = 0 then noneR 2 else if t.length < own.toNat then noneR 3
    else ⟨hd9 4 0 (t.take own.toNat) [] [] 0, [], 1 + own, ((t.length + 1 : Nat) : Int), 0⟩
theorem bit7 (b : UInt8) : (IntKind.u8.wrap ((BitVec.ofInt IntKind.u8.bits (b.toNat : Int) &&& BitVec.ofInt IntKind.u8.bits 128).toNat : Int) = 0) = ¬ 128 ≤ b.toNat := by
  have hx := b.toNat_lt
  have e4 : ∀ n : Fin 256, n.val &&& 128 = 128 * (n.val / 128 % 2) := by decide +kernel
  have e3 := e4 ⟨b.toNat, hx⟩
  simp only [] at e3
  have key : (IntKind.u8.wrap ((BitVec.ofInt 8 (b.toNat : Int) &&& BitVec.ofInt 8 128).toNat : Int) = 0) ↔ ¬ 128 ≤ b.toNat := by
    have e1 : (BitVec.ofInt 8 (b.toNat : Int)).toNat = b.toNat := by simp
    have e2 : (BitVec.ofInt 8 128).toNat = 128 := by decide
    rw [BitVec.toNat_and, e1, e2, e3, u8wrap] <;> omega
  exact propext key
theorem bit7n {b : UInt8} (h : IntKind.u8.wrap ((BitVec.ofInt IntKind.u8.bits (b.toNat : Int) &&& BitVec.ofInt IntKind.u8.bits 128).toNat : Int) = 0) : ¬ 128 ≤ b.toNat := by rw [bit7] at h; exact h
theorem hd_len (b : UInt8) (t : List UInt8) : (getL b t).hd.length = 9 := by
  unfold getL
  simp only []
  repeat' split
  all_goals rfl
theorem hd_one (b : UInt8) (t : List UInt8) : (getL b t).hd.all (·.oneCell') = true := by
  unfold getL
  simp only []
  repeat' split
  all_goals rfl
theorem Get_ph (h : Heap) (l : List UInt8) (own : Int) (v : Value) (hs : SlB h v l) (hll : l.length < 9223372036854775807) (hlt : ∀ a n m, v = .slice (some a) n m → a.block < h.next) :
    @CallsH Tryd.prog 19 #[v, .int .i64 own] h ⟨GRes h.next (getP l own)⟩ := by
  rcases hs with ⟨rfl, rfl⟩ | ⟨p, o, vs, q, rfl, hp, hb, hlen⟩
  · (refine calls_of_vcR (rs := [.cell 4 31, .tmp 5, .tmp 6, .tmp 7]) [] hm Tryd.func19 rfl rfl (by kernel_rfl) (by simp) ?_; simp (config := { dsimp := false }) only [go_sem, reduceIte, Nat.reduceEqDiff, reduceCtorEq, Nat.reduceAdd, Nat.reduceMul, Int.reduceToNat, Int.reduceLE, Int.reduceLT, Int.reduceEq, Int.reduceNe, Nat.reduceLeDiff, Int.reducePow, Nat.reducePow, Nat.reduceLT, Nat.reduceSub, Nat.reduceMod, Nat.reduceDiv, T.ag_31, T.ag_5, T.es_28, T.gf_41, T.gf_45, T.ib_3, T.ib_5, T.ii_28, T.ii_9, T.ip_3, T.ip_5, T.pl_31, T.s8_28, T.s8_9, T.sl_28, T.sl_9, T.st_28, T.st_9, T.un_28, T.un_9, T.zo_31, init_a])
    refine CallsH.pure _ rfl (within_ph own 0 20 _) ?_
    by_cases hw : 0 ≤ own ∧ own ≤ 20
    · have hd : (decide (0 ≤ own) && decide (own ≤ 20)) = true := by simp [hw.1, hw.2]
      simp (config := { dsimp := false }) only [go_sem, reduceIte, Nat.reduceEqDiff, reduceCtorEq, Nat.reduceAdd, Nat.reduceMul, Int.reduceToNat, Int.reduceLE, Int.reduceLT, Int.reduceEq, Int.reduceNe, Nat.reduceLeDiff, Int.reducePow, Nat.reducePow, Nat.reduceLT, Nat.reduceSub, Nat.reduceMod, Nat.reduceDiv, T.ag_31, T.ag_5, T.es_28, T.gf_41, T.gf_45, T.ib_3, T.ib_5, T.ii_28, T.ii_9, T.ip_3, T.ip_5, T.pl_31, T.s8_28, T.s8_9, T.sl_28, T.sl_9, T.st_28, T.st_9, T.un_28, T.un_9, T.zo_31, hd]
      have : getP [] own = noneR 3 := by rw [getP, if_neg (by omega)]
      rw [this]; exact GRes.none 3 _
    · have hd : (decide (0 ≤ own) && decide (own ≤ 20)) = false := by
        rcases Classical.em (0 ≤ own) with a | a
        · have : ¬ own ≤ 20 := fun x => hw ⟨a, x⟩
          simp [this]
        · simp [a]
      simp (config := { dsimp := false }) only [go_sem, reduceIte, Nat.reduceEqDiff, reduceCtorEq, Nat.reduceAdd, Nat.reduceMul, Int.reduceToNat, Int.reduceLE, Int.reduceLT, Int.reduceEq, Int.reduceNe, Nat.reduceLeDiff, Int.reducePow, Nat.reducePow, Nat.reduceLT, Nat.reduceSub, Nat.reduceMod, Nat.reduceDiv, T.ag_31, T.ag_5, T.es_28, T.gf_41, T.gf_45, T.ib_3, T.ib_5, T.ii_28, T.ii_9, T.ip_3, T.ip_5, T.pl_31, T.s8_28, T.s8_9, T.sl_28, T.sl_9, T.st_28, T.st_9, T.un_28, T.un_9, T.zo_31, hd]
      have : getP [] own = noneR 1 := by rw [getP, if_pos (by omega)]
      rw [this]; exact GRes.none 1 _
  · have hpn := hlt _ _ _ rfl
    have n1 : (p = h.next) = False := eq_false (by simp at hpn; omega)
    (refine calls_of_vcR (rs := [.cell 4 31, .tmp 5, .tmp 6, .tmp 7]) [] hm Tryd.func19 rfl rfl (by kernel_rfl) (by simp) ?_; simp (config := { dsimp := false }) only [go_sem, reduceIte, Nat.reduceEqDiff, reduceCtorEq, Nat.reduceAdd, Nat.reduceMul, Int.reduceToNat, Int.reduceLE, Int.reduceLT, Int.reduceEq, Int.reduceNe, Nat.reduceLeDiff, Int.reducePow, Nat.reducePow, Nat.reduceLT, Nat.reduceSub, Nat.reduceMod, Nat.reduceDiv, T.ag_31, T.ag_5, T.es_28, T.gf_41, T.gf_45, T.ib_3, T.ib_5, T.ii_28, T.ii_9, T.ip_3, T.ip_5, T.pl_31, T.s8_28, T.s8_9, T.sl_28, T.sl_9, T.st_28, T.st_9, T.un_28, T.un_9, T.zo_31, init_a])
    refine CallsH.pure _ rfl (within_ph own 0 20 _) ?_
    by_cases hw : 0 ≤ own ∧ own ≤ 20
    · have hd : (decide (0 ≤ own) && decide (own ≤ 20)) = true := by simp [hw.1, hw.2]
      cases l with
      | nil =>
        simp (config := { dsimp := false }) only [go_sem, reduceIte, Nat.reduceEqDiff, reduceCtorEq, Nat.reduceAdd, Nat.reduceMul, Int.reduceToNat, Int.reduceLE, Int.reduceLT, Int.reduceEq, Int.reduceNe, Nat.reduceLeDiff, Int.reducePow, Nat.reducePow, Nat.reduceLT, Nat.reduceSub, Nat.reduceMod, Nat.reduceDiv, T.ag_31, T.ag_5, T.es_28, T.gf_41, T.gf_45, T.ib_3, T.ib_5, T.ii_28, T.ii_9, T.ip_3, T.ip_5, T.pl_31, T.s8_28, T.s8_9, T.sl_28, T.sl_9, T.st_28, T.st_9, T.un_28, T.un_9, T.zo_31, hd]
        have : getP [] own = noneR 3 := by rw [getP, if_neg (by omega)]
        rw [this]; exact GRes.none 3 _
      | cons b t =>
        have b0 := SlB.get hb (n := 0) (by simp)
        simp only [Nat.add_zero, List.getD_cons_zero] at b0
        have hz : (((t.length + 1 : Nat) : Int) = 0) = False := eq_false (by omega)
        have w1 : IntKind.i64.wrap (1 + own) = 1 + own := by rw [i64wrap] <;> omega
        have hrow : own.toNat ≤ t.length → List.take (1 + own - 1).toNat (List.drop (o + 1) vs) = bc (t.take own.toNat) := fun hle => by
          have e : (1 + own - 1).toNat = own.toNat := by omega
          have := congrArg (fun x => (x.drop 1).take own.toNat) hb
          simp only [List.drop_take, List.drop_drop, List.take_take, bc_drop, bc_take] at this
          rw [e]
          simpa [Nat.min_eq_left hle] using this
        simp (config := { dsimp := false }) only [go_sem, reduceIte, Nat.reduceEqDiff, reduceCtorEq, Nat.reduceAdd, Nat.reduceMul, Int.reduceToNat, Int.reduceLE, Int.reduceLT, Int.reduceEq, Int.reduceNe, Nat.reduceLeDiff, Int.reducePow, Nat.reducePow, Nat.reduceLT, Nat.reduceSub, Nat.reduceMod, Nat.reduceDiv, T.ag_31, T.ag_5, T.es_28, T.gf_41, T.gf_45, T.ib_3, T.ib_5, T.ii_28, T.ii_9, T.ip_3, T.ip_5, T.pl_31, T.s8_28, T.s8_9, T.sl_28, T.sl_9, T.st_28, T.st_9, T.un_28, T.un_9, T.zo_31, hd, hz, hp, b0, n1, bit6, w1]
        have hl9 : (b :: t).length = t.length + 1 := rfl
        refine ⟨by omega, fun h128 => ?_, fun h128 => ⟨by omega, fun h6 => ?_, fun h6 => ?_⟩⟩
        · have hne : p ≠ h.next := fun x => by rw [n1] at x; exact x
          have hpn' : p < h.next := hpn
          have hgp : ((h.alloc (.cells Z31 .own)).mask []).get p = .live (.cells vs q.lk) := by simp [Heap.mask, Heap.alloc, hne, hp, lock_live', lock_cells]
          refine CallsH.frame (wr := []) ((getLong_ph ((h.alloc (.cells Z31 .own)).mask []) b t hgp (by show p < h.next + 1; omega) hb hlen hll).mono fun v h' ⟨lst, hv, hl⟩ => ?_)
          subst hv
          have hl : SlI (h.next + 1) h' lst (getL b t).list := hl
          have hl2 : SlI (h.next + 1) ((h.alloc (.cells Z31 .own)).unmask [] h') lst (getL b t).list := by
            rcases hl with hl | ⟨i, q', a1, a2, a3⟩
            · exact .inl hl
            · refine .inr ⟨i, q', a1, a2, ?_⟩
              rw [get_unmask, if_neg (by simp [Heap.alloc]; omega)]; exact a3
          have hres : ((h.alloc (.cells Z31 .own)).unmask [] h').get h.next = .live (.cells Z31 .own) := by
            rw [get_unmask, if_pos ⟨Nat.lt_succ_self _, by simp⟩]; simp [Heap.alloc]
          simp only [Z31] at hres hl2
          generalize hG : Heap.unmask _ [] h' = G at hres hl2 ⊢
          have h9 := hd_len b t
          generalize hgg : getL b t = g at *
          simp (config := { dsimp := false }) only [go_sem, reduceIte, Nat.reduceEqDiff, reduceCtorEq, Nat.reduceAdd, Nat.reduceMul, Int.reduceToNat, Int.reduceLE, Int.reduceLT, Int.reduceEq, Int.reduceNe, Nat.reduceLeDiff, Int.reducePow, Nat.reducePow, Nat.reduceLT, Nat.reduceSub, Nat.reduceMod, Nat.reduceDiv, T.ag_31, T.ag_5, T.es_28, T.gf_41, T.gf_45, T.ib_3, T.ib_5, T.ii_28, T.ii_9, T.ip_3, T.ip_5, T.pl_31, T.s8_28, T.s8_9, T.sl_28, T.sl_9, T.st_28, T.st_9, T.un_28, T.un_9, T.zo_31, hres]
          have h1 := hd_one b t
          rw [hgg] at h1
          have hl1 : lst.oneCell' = true := by rcases hl with ⟨x, _⟩ | ⟨i, q', _, x, _⟩ <;> rw [x] <;> rfl
          have hgp : getP (b :: t) own = g := by
            rw [getP, if_neg (by omega), if_pos (by rw [bit7] at h128; omega), hgg]
          rw [hgp, List.take_of_length_le (by simp [h9])]
          refine ⟨⟨by simp [h9], by simp [List.all_append, h1, hl1]⟩, by simp [h9], lst, rfl, ?_⟩
          rcases hl2 with x | ⟨i, q', a1, a2, a3⟩
          · exact .inl x
          · refine .inr ⟨i, q', by omega, a2, ?_⟩
            simp only [Heap.put]; rw [if_neg (by omega)]; exact a3
        · have : getP (b :: t) own = noneR 2 := by
            rw [getP, if_neg (by omega), if_neg (bit7n (Classical.not_not.1 h128)), if_pos h6]
          rw [this]; exact GRes.none 2 _
        · have hlen' : o + (t.length + 1) ≤ vs.length := hlen
          refine ⟨fun hs => ?_, fun hs => ⟨⟨by omega, by omega⟩, by omega, ?_⟩⟩
          · have : getP (b :: t) own = noneR 3 := by
              rw [getP, if_neg (by omega), if_neg (bit7n (Classical.not_not.1 h128)), if_neg h6, if_pos (by omega)]
            rw [this]; exact GRes.none 3 _
          · rw [hrow (by omega), bc_val]
            simp (config := { dsimp := false }) only [go_sem, reduceIte, Nat.reduceEqDiff, reduceCtorEq, Nat.reduceAdd, Nat.reduceMul, Int.reduceToNat, Int.reduceLE, Int.reduceLT, Int.reduceEq, Int.reduceNe, Nat.reduceLeDiff, Int.reducePow, Nat.reducePow, Nat.reduceLT, Nat.reduceSub, Nat.reduceMod, Nat.reduceDiv, T.ag_31, T.ag_5, T.es_28, T.gf_41, T.gf_45, T.ib_3, T.ib_5, T.ii_28, T.ii_9, T.ip_3, T.ip_5, T.pl_31, T.s8_28, T.s8_9, T.sl_28, T.sl_9, T.st_28, T.st_9, T.un_28, T.un_9, T.zo_31]
            have : getP (b :: t) own = ⟨hd9 4 0 (t.take own.toNat) [] [] 0, [], 1 + own, ((t.length + 1 : Nat) : Int), 0⟩ := by
              rw [getP, if_neg (by omega), if_neg (bit7n (Classical.not_not.1 h128)), if_neg h6, if_neg (by omega)]
            rw [this]
            exact ⟨.slice Option.none 0 0, by rw [w1]; rfl, .inl ⟨rfl, rfl⟩⟩
    · have hd : (decide (0 ≤ own) && decide (own ≤ 20)) = false := by
        rcases Classical.em (0 ≤ own) with a | a
        · have : ¬ own ≤ 20 := fun x => hw ⟨a, x⟩
          simp [this]
        · simp [a]
      simp (config := { dsimp := false }) only [go_sem, reduceIte, Nat.reduceEqDiff, reduceCtorEq, Nat.reduceAdd, Nat.reduceMul, Int.reduceToNat, Int.reduceLE, Int.reduceLT, Int.reduceEq, Int.reduceNe, Nat.reduceLeDiff, Int.reducePow, Nat.reducePow, Nat.reduceLT, Nat.reduceSub, Nat.reduceMod, Nat.reduceDiv, T.ag_31, T.ag_5, T.es_28, T.gf_41, T.gf_45, T.ib_3, T.ib_5, T.ii_28, T.ii_9, T.ip_3, T.ip_5, T.pl_31, T.s8_28, T.s8_9, T.sl_28, T.sl_9, T.st_28, T.st_9, T.un_28, T.un_9, T.zo_31, hd]
      have : getP l own = noneR 1 := by unfold getP; rw [if_pos (by omega)]
      rw [this]; exact GRes.none 1 _
end Ph
