import Derived.Test.YthagjeomcgphiaaDoorN40
set_option maxRecDepth 100000
set_option maxHeartbeats 4000000
set_option linter.unusedSimpArgs false
set_option linter.unusedVariables false
namespace Ph
open Go Go.Proofs
attribute [local irreducible] Value.cells
attribute [local go_sem ↓] s_move s_assign s_pick s_nil s_bin s_un s_fa s_field s_ext s_ia s_ix s_slice s_conv s_build s_bs s_mf s_alloc s_box s_load s_store s_len s_min s_max s_app s_call q_call q_move q_assign q_pick q_nil q_bin q_un q_fa q_field q_ext q_ia q_ix q_slice q_conv q_build q_mf q_load q_len q_min q_max l_nil l_move l_assign l_pick l_nilc l_bin l_un l_fa l_field l_ext l_ia l_ix l_slice l_conv l_build l_mf l_load l_len l_min l_max l_call put_eq putN_eq o_nil o_plain o_gate v_nil v_plain v_gate vc_skip vc_region vc_seq vc_cond vc_block vc_loop vc_exit vc_ret blk_normal blk_ret blk_exit on_normal on_ret on_exit vc_drawn draw_q s_mk l_bs l_mk l_alloc l_box l_store l_app pl_done pl_take pl_alt pl_stop one_plain one_gate
attribute [local go_sem] onAgg_a onTuple_t onFunc_f c_int c_nil c_sl c_str sl_sl sl_nil sl_str ix_str ix_agg n_nil n_sl n_str app_eq k_nil k_sl len_sl len_str upd_some upd_none ev_tmp ev_const ev_func rd_some gdst_eq otmp_t otmp_c get_put get_alloc next_put next_alloc get_app next_app init_a resV1 resV2 onPtr_ptr onBool_b onInt_i onSlice_s onSome_s onCells_c lett_eq gate_tt gate_tf gate_ff gate_ft gate_dt gate_df also_eq bin un minmax io_none io_some bo_none bo_some partOf List.getElem?_cons_zero List.getElem?_cons_succ List.getElem?_toArray Option.map_some Option.map_none Option.bind_some ne_eq not_true_eq_false not_false_eq_true false_implies true_implies and_true true_and and_self Bool.false_eq_true Nat.zero_add Nat.add_zero List.size_toArray List.length_cons List.length_nil List.map_toArray List.map_cons List.map_nil Array.getD_eq_getD_getElem? Option.getD_some Bool.not_true Bool.not_false Bool.not_eq_true Option.isNone_some Option.isNone_none List.append_toArray List.append_nil List.nil_append List.cons_append decide_true decide_false in_nil in_cons Bool.and_false Bool.and_true Bool.or_false Bool.true_or Bool.false_or get_mask next_mask get_unmask next_unmask ac_move ac_assign ac_pick ac_nil ac_bin ac_un ac_fa ac_field ac_ext ac_ia ac_ix ac_slice ac_build ac_mf ac_call ac_load ac_conv accP_p accS_s accS_n accS_i accS_t fixed_ro fixed_lock fixed_own get_ro next_ro lock_live' lock_cells List.mem_cons List.not_mem_nil or_false false_or or_true true_or and_false false_and IntKind.bits Int.natCast_zero Int.natCast_one size_str data_str list_str mk_str ext_str app_str bytes_str w_byte w_byteu Int.toNat_natCast Int.toNat_zero Int.toNat_one Nat.sub_zero ge_iff_le gt_iff_lt Nat.le_refl Int.le_refl List.drop_zero Int.ofNat_eq_natCast Int.natCast_nonneg Int.sub_zero oc_int oc_bool oc_str oc_ptr oc_sl oc_map oc_func List.set_cons_zero List.set_cons_succ Nat.mul_one List.all_cons List.all_nil Bool.and_self res_nil res_tmp res_cell tup_one tup_two tup_nil fill_nil repl_zero cells_agg List.append_eq List.toList_toArray Nat.zero_mul Nat.one_mul repl_one repl_two onSome_build fill_cons onSome_lit splice_eq cells_int cells_bool cells_str cells_ptr cells_sl cells_map cells_func loadK_n loadK_s load_k storeK_n storeK_s store_k all_arr List.take_zero List.take_succ_cons List.drop_succ_cons List.take_nil List.drop_nil lk_own lk_ro lk_lock lk_lk fixed_lk gate_nt gate_nf gate3_b gate3_u undef Bool.true_and Bool.false_and nx_l nx_r nx_lt
def vsz (n : Nat) : Nat := if n < 64 then 1 else if n < 16384 then 2 else if n < 1073741824 then 4 else 8
theorem vsz_cases (n : Nat) : (vsz n = 1 ∧ n < 64) ∨ (vsz n = 2 ∧ 64 ≤ n ∧ n < 16384) ∨ (vsz n = 4 ∧ 16384 ≤ n ∧ n < 1073741824) ∨ (vsz n = 8 ∧ 1073741824 ≤ n) := by
  unfold vsz
  split
  · exact .inl ⟨rfl, by assumption⟩
  · split
    · exact .inr (.inl ⟨rfl, by omega, by assumption⟩)
    · split
      · exact .inr (.inr (.inl ⟨rfl, by omega, by assumption⟩))
      · exact .inr (.inr (.inr ⟨rfl, by omega⟩))
theorem top1 : top 1 = 64 := by decide
theorem top2 : top 2 = 16384 := by decide
theorem top4 : top 4 = 1073741824 := by decide
theorem top8 : top 8 = 4611686018427387904 := by decide
theorem vsz_ok (n : Nat) : okSz (vsz n) := by
  rcases vsz_cases n with ⟨e, _⟩ | ⟨e, _⟩ | ⟨e, _⟩ | ⟨e, _⟩ <;> rw [e] <;> simp [okSz]
theorem vsz_fit {n : Nat} (h : n < 4611686018427387904) : n < top (vsz n) := by
  rcases vsz_cases n with ⟨e, _⟩ | ⟨e, _⟩ | ⟨e, _⟩ | ⟨e, _⟩ <;> rw [e] <;> simp only [top1, top2, top4, top8] <;> omega
theorem VPut_ph (h : Heap) (n : Nat) (hn : n < 4611686018427387904) :
    @CallsH Tryd.prog 57 #[.int .i64 n] h ⟨fun w h' => ∃ v j, w = .tuple #[v, .int .i64 0] ∧ OwnB h' j v (vputS n (vsz n)) ∧ h.next ≤ j ∧ Kept h h'⟩ := by
  (refine calls_of_vc [] hm Tryd.func57 rfl (ts := [2, 3]) rfl (by kernel_rfl) (by simp) ?_; simp (config := { dsimp := false }) only [go_sem, reduceIte, Nat.reduceEqDiff, reduceCtorEq, Nat.reduceAdd, Nat.reduceMul, Int.reduceToNat, Int.reduceLE, Int.reduceLT, Int.reduceEq, Int.reduceNe, Nat.reduceLeDiff, Int.reducePow, Nat.reducePow, Nat.reduceLT, Nat.reduceSub, Nat.reduceMod, Nat.reduceDiv, T.gf_40, T.gf_58, T.ib_3, T.ip_3, init_a])
  refine loop_intro [] hm (fun r H => H = h ∧ ∃ sz : Nat, okSz sz ∧ r 0 = .int .i64 n ∧ r 4 = .int .i64 sz ∧ sz ≤ vsz n) (fun r _ => match r 4 with | .int _ x => (9 - x).toNat | _ => 0) ?_ ?_
  · exact ⟨rfl, 1, .inl rfl, by simp [upd, initR], by simp [upd], by rcases vsz_ok n with e | e | e | e <;> omega⟩
  · rintro r _ ⟨rfl, sz, hs, h0, h4, hle⟩
    have hz : ((sz : Int) ≤ 8) = True := eq_true (by rcases hs with e | e | e | e <;> omega)
    simp (config := { dsimp := false }) only [go_sem, reduceIte, Nat.reduceEqDiff, reduceCtorEq, Nat.reduceAdd, Nat.reduceMul, Int.reduceToNat, Int.reduceLE, Int.reduceLT, Int.reduceEq, Int.reduceNe, Nat.reduceLeDiff, Int.reducePow, Nat.reducePow, Nat.reduceLT, Nat.reduceSub, Nat.reduceMod, Nat.reduceDiv, T.gf_40, T.gf_58, T.ib_3, T.ip_3, h0, h4, hz]
    refine CallsH.pure _ rfl (fits_ph n (by omega) (by omega) sz hs _) ?_
    by_cases hf : n < top sz
    · have d1 : ((n : Int) < (top sz : Int)) = True := eq_true (by omega)
      have e : vsz n = sz := by
        rcases hs with rfl | rfl | rfl | rfl <;> simp only [top1, top2, top4, top8] at hf <;> rcases vsz_cases n with ⟨e, _⟩ | ⟨e, _⟩ | ⟨e, _⟩ | ⟨e, _⟩ <;> omega
      simp (config := { dsimp := false }) only [go_sem, reduceIte, Nat.reduceEqDiff, reduceCtorEq, Nat.reduceAdd, Nat.reduceMul, Int.reduceToNat, Int.reduceLE, Int.reduceLT, Int.reduceEq, Int.reduceNe, Nat.reduceLeDiff, Int.reducePow, Nat.reducePow, Nat.reduceLT, Nat.reduceSub, Nat.reduceMod, Nat.reduceDiv, T.gf_40, T.gf_58, T.ib_3, T.ip_3, h0, h4, d1, hz]
      refine (PutIn_ph _ n sz hs hf).mono fun w h' ⟨v, j, hw, ho, hj, hk⟩ => ?_
      subst hw
      simp (config := { dsimp := false }) only [go_sem, reduceIte, Nat.reduceEqDiff, reduceCtorEq, Nat.reduceAdd, Nat.reduceMul, Int.reduceToNat, Int.reduceLE, Int.reduceLT, Int.reduceEq, Int.reduceNe, Nat.reduceLeDiff, Int.reducePow, Nat.reducePow, Nat.reduceLT, Nat.reduceSub, Nat.reduceMod, Nat.reduceDiv, T.gf_40, T.gf_58, T.ib_3, T.ip_3]
      exact ⟨v, j, rfl, by rw [e]; exact ho, hj, hk⟩
    · have d1 : ((n : Int) < (top sz : Int)) = False := eq_false (by omega)
      have hs2 : okSz (sz * 2) ∧ sz * 2 ≤ vsz n := by
        rcases hs with rfl | rfl | rfl | rfl <;> simp only [top1, top2, top4, top8] at hf <;> rcases vsz_cases n with ⟨e, _⟩ | ⟨e, _⟩ | ⟨e, _⟩ | ⟨e, _⟩ <;> first | omega | exact ⟨by simp [okSz], by omega⟩
      have w1 : IntKind.i64.wrap ((sz : Int) * 2) = ((sz * 2 : Nat) : Int) := by rw [i64wrap] <;> (rcases hs with e | e | e | e <;> omega)
      simp (config := { dsimp := false }) only [go_sem, reduceIte, Nat.reduceEqDiff, reduceCtorEq, Nat.reduceAdd, Nat.reduceMul, Int.reduceToNat, Int.reduceLE, Int.reduceLT, Int.reduceEq, Int.reduceNe, Nat.reduceLeDiff, Int.reducePow, Nat.reducePow, Nat.reduceLT, Nat.reduceSub, Nat.reduceMod, Nat.reduceDiv, T.gf_40, T.gf_58, T.ib_3, T.ip_3, h0, h4, d1, w1, hz]
      exact ⟨⟨sz * 2, hs2.1, rfl, hs2.2⟩, by rcases hs with e | e | e | e <;> omega⟩
/-- a text: its length, then it -/
def vtextS (s : List UInt8) : List UInt8 := vputS s.length (vsz s.length) ++ s
theorem vputS_len (n sz : Nat) : (vputS n sz).length = sz := lowS_len _ _
theorem VText_ph (h : Heap) (s : List UInt8) (hs : s.length ≤ 65535) :
    @CallsH Tryd.prog 39 #[.string (str s)] h ⟨fun w h' => ∃ v j, w = .tuple #[v, .int .i64 0] ∧ OwnB h' j v (vtextS s) ∧ h.next ≤ j ∧ Kept h h'⟩ := by
  have c1 : (65535 < (s.length : Int)) = False := eq_false (by omega)
  (refine calls_of_vc [] hm Tryd.func39 rfl (ts := [2, 3]) rfl (by kernel_rfl) (by simp) ?_; simp (config := { dsimp := false }) only [go_sem, reduceIte, Nat.reduceEqDiff, reduceCtorEq, Nat.reduceAdd, Nat.reduceMul, Int.reduceToNat, Int.reduceLE, Int.reduceLT, Int.reduceEq, Int.reduceNe, Nat.reduceLeDiff, Int.reducePow, Nat.reducePow, Nat.reduceLT, Nat.reduceSub, Nat.reduceMod, Nat.reduceDiv, T.eb_28, T.ez_28, T.gf_57, T.ib_3, T.ii_9, T.ip_3, T.s8_9, T.sl_9, T.st_9, T.un_9, init_a, c1])
  refine (VPut_ph h s.length (by omega)).mono fun w h' ⟨v, j, hw, ⟨hv, hj1, hg⟩, hj, hk⟩ => ?_
  subst hw
  subst hv
  have hz := vsz_ok s.length
  have hzl : vsz s.length ≤ 8 := by rcases hz with e | e | e | e <;> omega
  have ht : List.take (vputS s.length (vsz s.length)).length (bc (vputS s.length (vsz s.length))) = bc (vputS s.length (vsz s.length)) := List.take_of_length_le (by rw [bc_len]; exact Nat.le_refl _)
  simp (config := { dsimp := false, maxSteps := 10000000 }) (disch := omega) only [go_sem, reduceIte, Nat.reduceEqDiff, reduceCtorEq, Nat.reduceAdd, Nat.reduceMul, Int.reduceToNat, Int.reduceLE, Int.reduceLT, Int.reduceEq, Int.reduceNe, Nat.reduceLeDiff, Int.reducePow, Nat.reducePow, Nat.reduceLT, Nat.reduceSub, Nat.reduceMod, Nat.reduceDiv, slot_neg, slot_pos, T.eb_28, T.ez_28, T.gf_57, T.ib_3, T.ii_9, T.ip_3, T.s8_9, T.sl_9, T.st_9, T.un_9, hg, ht, bc_len, bc_one]
  rw [vputS_len]
  refine ⟨⟨by omega, by omega⟩, _, h'.next, rfl, ⟨by simp [vtextS, vputS_len], by simp [appHeap], by simp [appHeap, vtextS, bc]⟩, by have := hk.1; omega, ⟨by simp [appHeap]; have := hk.1; omega, fun id hid => ?_⟩⟩
  have := hk.1
  rw [get_app, if_neg (by omega), if_neg (by show ¬ id = j; omega)]
  exact hk.2 id hid
theorem two_app {h H : Heap} {i j : Nat} {acc : List UInt8} (b : UInt8) (u : List UInt8) (B : Blk) (hj : j < H.next) (hji : j = i ∨ h.next ≤ j) (hK : Keep h H i) :
    OwnB (appHeap (appHeap (H.alloc B) ⟨j, 0, none⟩ (bc acc ++ [.int .u8 b.toNat])) ⟨H.next + 1, 0, none⟩ (List.take (acc.length + 1) (bc acc ++ [.int .u8 b.toNat]) ++ bc u)) (H.next + 1 + 1) (.slice (some ⟨H.next + 1 + 1, 0, none⟩) (acc.length + 1 + u.length) 1) (acc ++ (b :: u)) ∧
    Keep h (appHeap (appHeap (H.alloc B) ⟨j, 0, none⟩ (bc acc ++ [.int .u8 b.toNat])) ⟨H.next + 1, 0, none⟩ (List.take (acc.length + 1) (bc acc ++ [.int .u8 b.toNat]) ++ bc u)) i := by
  obtain ⟨kn, ko⟩ := hK
  have ht : List.take (acc.length + 1) (bc acc ++ [Value.int .u8 b.toNat]) = bc acc ++ [Value.int .u8 b.toNat] := List.take_of_length_le (by simp [bc])
  rw [ht]
  refine ⟨⟨by simp; omega, by simp [appHeap, Heap.alloc], by simp [appHeap, Heap.alloc, bc]⟩, ⟨by simp [appHeap, Heap.alloc]; omega, fun id hid hne => ?_⟩⟩
  rw [get_app, next_app, next_alloc, if_neg (by omega), if_neg (by show ¬ id = H.next + 1; omega), get_app, next_alloc, if_neg (by omega), if_neg (by show ¬ id = j; omega), get_alloc, if_neg (by omega)]
  exact ko id hid hne
theorem names_ph (h : Heap) (i : Nat) (v : Value) (l : List UInt8) (hv : OwnB h i v l) (hll : l.length ≤ 1000) (k : Int) (n : Nat) (d s t : List UInt8) (len num sz : Int) (ph : Bool) (lst : Value) (o1 : lst.oneCell' = true) (c1 : lst.cells = #[lst]) (hn : n < 4294967296) (hd : d.length ≤ 20) (hs : s.length ≤ 20) :
    @CallsH Tryd.prog 38 #[.agg (hdv k n d s t len num sz ph lst).toArray, v] h ⟨fun w h' => ∃ j, OwnB h' j w (l ++ lowS n 4 ++ (UInt8.ofNat d.length :: d) ++ (UInt8.ofNat s.length :: s)) ∧ (j = i ∨ h.next ≤ j) ∧ Keep h h' i⟩ := by
  obtain ⟨rfl, hi, hg⟩ := hv
  unfold hdv
  (refine calls_of_vc [] hm Tryd.func38 rfl (ts := [4]) rfl (by kernel_rfl) (by simp) ?_; simp (config := { dsimp := false, maxSteps := 10000000 }) (disch := omega) only [go_sem, reduceIte, Nat.reduceEqDiff, reduceCtorEq, Nat.reduceAdd, Nat.reduceMul, Int.reduceToNat, Int.reduceLE, Int.reduceLT, Int.reduceEq, Int.reduceNe, Nat.reduceLeDiff, Int.reducePow, Nat.reducePow, Nat.reduceLT, Nat.reduceSub, Nat.reduceMod, Nat.reduceDiv, slot_neg, slot_pos, T.ag_3, T.ag_9, T.ap_102, T.eb_28, T.es_102, T.ez_28, T.fo_31_1, T.fo_31_2, T.fo_31_3, T.gf_37, T.ib_3, T.ii_102, T.ii_28, T.ii_3, T.ii_5, T.ii_9, T.ip_3, T.pl_102, T.s8_102, T.s8_28, T.s8_3, T.s8_5, T.s8_9, T.sl_102, T.sl_28, T.sl_3, T.sl_5, T.sl_9, T.st_102, T.st_28, T.st_3, T.st_5, T.st_9, T.un_102, T.un_28, T.un_3, T.un_5, T.un_9, T.zo_102, init_a, o1, c1])
  refine (low_ph _ i _ l n 4 ⟨rfl, by simp [Heap.alloc]; omega, by rw [get_alloc, if_neg (by omega)]; exact hg⟩ (by omega) (by omega) (by omega)).mono fun w H1 ⟨j, hO, hji, hK⟩ => ?_
  have hji' : j = i ∨ h.next ≤ j := hji.imp id fun x => Nat.le_trans (Nat.le_succ _) x
  have hK' : Keep h H1 i := Keep.trans Keep.alloc hK
  have hbox : H1.get h.next = .live (.cells [.int .i64 k, .int .i64 n, .string (str d), .string (str s), .string (str t), .int .i64 len, .int .i64 num, .int .i64 sz, .bool ph, lst] .own) := by
    rw [hK.2 h.next (Nat.lt_succ_self _) (by omega), get_alloc, if_pos rfl]
  simp (config := { dsimp := false, maxSteps := 10000000 }) (disch := omega) only [go_sem, reduceIte, Nat.reduceEqDiff, reduceCtorEq, Nat.reduceAdd, Nat.reduceMul, Int.reduceToNat, Int.reduceLE, Int.reduceLT, Int.reduceEq, Int.reduceNe, Nat.reduceLeDiff, Int.reducePow, Nat.reducePow, Nat.reduceLT, Nat.reduceSub, Nat.reduceMod, Nat.reduceDiv, slot_neg, slot_pos, T.ag_3, T.ag_9, T.ap_102, T.eb_28, T.es_102, T.ez_28, T.fo_31_1, T.fo_31_2, T.fo_31_3, T.gf_37, T.ib_3, T.ii_102, T.ii_28, T.ii_3, T.ii_5, T.ii_9, T.ip_3, T.pl_102, T.s8_102, T.s8_28, T.s8_3, T.s8_5, T.s8_9, T.sl_102, T.sl_28, T.sl_3, T.sl_5, T.sl_9, T.st_102, T.st_28, T.st_3, T.st_5, T.st_9, T.un_102, T.un_28, T.un_3, T.un_5, T.un_9, T.zo_102, hbox]
  refine loop_intro [] hm (fun r H => ∃ (j : Nat) (acc : List UInt8) (x : Nat), r 15 = .agg #[.string (str d), .string (str s)] ∧ r 16 = .int .i64 x ∧ OwnB H j (r 1) acc ∧ (j = i ∨ h.next ≤ j) ∧ Keep h H i ∧
    ((x = 0 ∧ acc = l ++ lowS n 4) ∨ (x = 1 ∧ acc = l ++ lowS n 4 ++ (UInt8.ofNat d.length :: d)) ∨ (x = 2 ∧ acc = l ++ lowS n 4 ++ (UInt8.ofNat d.length :: d) ++ (UInt8.ofNat s.length :: s)))) (fun r _ => match r 16 with | .int _ x => (2 - x).toNat | _ => 0) ?_ ?_
  · exact ⟨j, _, 0, by simp [upd], by simp [upd], by simpa [upd] using hO, hji', hK', .inl ⟨rfl, rfl⟩⟩
  · rintro r H ⟨j, acc, x, h15, h16, ⟨h1, hj, hg1⟩, hji, hK, hx⟩
    have hla : acc.length ≤ 1100 := by
      rcases hx with ⟨_, e⟩ | ⟨_, e⟩ | ⟨_, e⟩ <;> rw [e] <;> simp [lowS_len] <;> omega
    have ht : List.take acc.length (bc acc) = bc acc := List.take_of_length_le (by rw [bc_len]; exact Nat.le_refl _)
    have step : ∀ (u : List UInt8), u.length ≤ 20 → IntKind.u8.wrap (u.length : Int) = ((UInt8.ofNat u.length).toNat : Int) := fun u hu => by
      rw [u8wrap (by omega) (by omega), UInt8.toNat_ofNat']; omega
    rcases hx with ⟨rfl, e⟩ | ⟨rfl, e⟩ | ⟨rfl, e⟩
    · simp (config := { dsimp := false, maxSteps := 10000000 }) (disch := omega) only [go_sem, reduceIte, Nat.reduceEqDiff, reduceCtorEq, Nat.reduceAdd, Nat.reduceMul, Int.reduceToNat, Int.reduceLE, Int.reduceLT, Int.reduceEq, Int.reduceNe, Nat.reduceLeDiff, Int.reducePow, Nat.reducePow, Nat.reduceLT, Nat.reduceSub, Nat.reduceMod, Nat.reduceDiv, slot_neg, slot_pos, T.ag_3, T.ag_9, T.ap_102, T.eb_28, T.es_102, T.ez_28, T.fo_31_1, T.fo_31_2, T.fo_31_3, T.gf_37, T.ib_3, T.ii_102, T.ii_28, T.ii_3, T.ii_5, T.ii_9, T.ip_3, T.pl_102, T.s8_102, T.s8_28, T.s8_3, T.s8_5, T.s8_9, T.sl_102, T.sl_28, T.sl_3, T.sl_5, T.sl_9, T.st_102, T.st_28, T.st_3, T.st_5, T.st_9, T.un_102, T.un_28, T.un_3, T.un_5, T.un_9, T.zo_102, h1, h15, h16, hg1, ht, bc_len, bc_one, step d hd]
      obtain ⟨t1, t2⟩ := two_app (UInt8.ofNat d.length) d (.cells [.int .u8 ((UInt8.ofNat d.length).toNat : Int)] .own) hj hji hK (acc := acc)
      exact ⟨by omega, ⟨by omega, by omega⟩, ⟨by rw [List.length_append, bc_len]; exact Nat.le_refl _, by omega, by omega⟩, ⟨_, _, 1, rfl, t1, .inr (by have := hK.1; omega), t2, .inr (.inl ⟨rfl, by rw [e]⟩)⟩, by decide⟩
    · simp (config := { dsimp := false, maxSteps := 10000000 }) (disch := omega) only [go_sem, reduceIte, Nat.reduceEqDiff, reduceCtorEq, Nat.reduceAdd, Nat.reduceMul, Int.reduceToNat, Int.reduceLE, Int.reduceLT, Int.reduceEq, Int.reduceNe, Nat.reduceLeDiff, Int.reducePow, Nat.reducePow, Nat.reduceLT, Nat.reduceSub, Nat.reduceMod, Nat.reduceDiv, slot_neg, slot_pos, T.ag_3, T.ag_9, T.ap_102, T.eb_28, T.es_102, T.ez_28, T.fo_31_1, T.fo_31_2, T.fo_31_3, T.gf_37, T.ib_3, T.ii_102, T.ii_28, T.ii_3, T.ii_5, T.ii_9, T.ip_3, T.pl_102, T.s8_102, T.s8_28, T.s8_3, T.s8_5, T.s8_9, T.sl_102, T.sl_28, T.sl_3, T.sl_5, T.sl_9, T.st_102, T.st_28, T.st_3, T.st_5, T.st_9, T.un_102, T.un_28, T.un_3, T.un_5, T.un_9, T.zo_102, h1, h15, h16, hg1, ht, bc_len, bc_one, step s hs]
      obtain ⟨t1, t2⟩ := two_app (UInt8.ofNat s.length) s (.cells [.int .u8 ((UInt8.ofNat s.length).toNat : Int)] .own) hj hji hK (acc := acc)
      exact ⟨by omega, ⟨by omega, by omega⟩, ⟨by rw [List.length_append, bc_len]; exact Nat.le_refl _, by omega, by omega⟩, ⟨_, _, 2, rfl, t1, .inr (by have := hK.1; omega), t2, .inr (.inr ⟨rfl, by rw [e]⟩)⟩, by decide⟩
    · have h16' : r 16 = .int .i64 2 := h16
      simp (config := { dsimp := false, maxSteps := 10000000 }) (disch := omega) only [go_sem, reduceIte, Nat.reduceEqDiff, reduceCtorEq, Nat.reduceAdd, Nat.reduceMul, Int.reduceToNat, Int.reduceLE, Int.reduceLT, Int.reduceEq, Int.reduceNe, Nat.reduceLeDiff, Int.reducePow, Nat.reducePow, Nat.reduceLT, Nat.reduceSub, Nat.reduceMod, Nat.reduceDiv, slot_neg, slot_pos, T.ag_3, T.ag_9, T.ap_102, T.eb_28, T.es_102, T.ez_28, T.fo_31_1, T.fo_31_2, T.fo_31_3, T.gf_37, T.ib_3, T.ii_102, T.ii_28, T.ii_3, T.ii_5, T.ii_9, T.ip_3, T.pl_102, T.s8_102, T.s8_28, T.s8_3, T.s8_5, T.s8_9, T.sl_102, T.sl_28, T.sl_3, T.sl_5, T.sl_9, T.st_102, T.st_28, T.st_3, T.st_5, T.st_9, T.un_102, T.un_28, T.un_3, T.un_5, T.un_9, T.zo_102, h1, h15, h16', hg1]
      exact ⟨j, by rw [← e]; exact ⟨rfl, hj, hg1⟩, hji, hK⟩
end Ph
