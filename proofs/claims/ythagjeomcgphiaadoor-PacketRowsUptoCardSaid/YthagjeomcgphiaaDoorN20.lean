import Derived.Test.YthagjeomcgphiaaDoorN46
set_option maxRecDepth 100000
set_option linter.unusedSimpArgs false
set_option linter.unusedVariables false
namespace Ph
open Go Go.Proofs
attribute [local irreducible] Value.cells
attribute [local go_sem ↓] s_move s_assign s_pick s_nil s_bin s_un s_fa s_field s_ext s_ia s_ix s_slice s_conv s_build s_bs s_mf s_alloc s_box s_load s_store s_len s_min s_max s_app s_call q_call q_move q_assign q_pick q_nil q_bin q_un q_fa q_field q_ext q_ia q_ix q_slice q_conv q_build q_mf q_load q_len q_min q_max l_nil l_move l_assign l_pick l_nilc l_bin l_un l_fa l_field l_ext l_ia l_ix l_slice l_conv l_build l_mf l_load l_len l_min l_max l_call put_eq putN_eq o_nil o_plain o_gate v_nil v_plain v_gate vc_skip vc_region vc_seq vc_cond vc_block vc_loop vc_exit vc_ret blk_normal blk_ret blk_exit on_normal on_ret on_exit vc_drawn draw_q s_mk l_bs l_mk l_alloc l_box l_store l_app pl_done pl_take pl_alt pl_stop one_plain one_gate
attribute [local go_sem] onAgg_a onTuple_t onFunc_f c_int c_nil c_sl c_str sl_sl sl_nil sl_str ix_str ix_agg n_nil n_sl n_str app_eq k_nil k_sl len_sl len_str upd_some upd_none ev_tmp ev_const ev_func rd_some gdst_eq otmp_t otmp_c get_put get_alloc next_put next_alloc get_app next_app init_a resV1 resV2 onPtr_ptr onBool_b onInt_i onSlice_s onSome_s onCells_c lett_eq gate_tt gate_tf gate_ff gate_ft gate_dt gate_df also_eq bin un minmax io_none io_some bo_none bo_some partOf List.getElem?_cons_zero List.getElem?_cons_succ List.getElem?_toArray Option.map_some Option.map_none Option.bind_some ne_eq not_true_eq_false not_false_eq_true false_implies true_implies and_true true_and and_self Bool.false_eq_true Nat.zero_add Nat.add_zero List.size_toArray List.length_cons List.length_nil List.map_toArray List.map_cons List.map_nil Array.getD_eq_getD_getElem? Option.getD_some Bool.not_true Bool.not_false Bool.not_eq_true Option.isNone_some Option.isNone_none List.append_toArray List.append_nil List.nil_append List.cons_append decide_true decide_false in_nil in_cons Bool.and_false Bool.and_true Bool.or_false Bool.true_or Bool.false_or get_mask next_mask get_unmask next_unmask ac_move ac_assign ac_pick ac_nil ac_bin ac_un ac_fa ac_field ac_ext ac_ia ac_ix ac_slice ac_build ac_mf ac_call ac_load ac_conv accP_p accS_s accS_n accS_i accS_t fixed_ro fixed_lock fixed_own get_ro next_ro lock_live' lock_cells List.mem_cons List.not_mem_nil or_false false_or or_true true_or and_false false_and IntKind.bits Int.natCast_zero Int.natCast_one size_str data_str list_str mk_str ext_str app_str bytes_str w_byte w_byteu Int.toNat_natCast Int.toNat_zero Int.toNat_one Nat.sub_zero ge_iff_le gt_iff_lt Nat.le_refl Int.le_refl List.drop_zero Int.ofNat_eq_natCast Int.natCast_nonneg Int.sub_zero oc_int oc_bool oc_str oc_ptr oc_sl oc_map oc_func List.set_cons_zero List.set_cons_succ Nat.mul_one List.all_cons List.all_nil Bool.and_self res_nil res_tmp res_cell tup_one tup_two tup_nil fill_nil repl_zero cells_agg List.append_eq List.toList_toArray Nat.zero_mul Nat.one_mul repl_one repl_two onSome_build fill_cons onSome_lit splice_eq cells_int cells_bool cells_str cells_ptr cells_sl cells_map cells_func loadK_n loadK_s load_k storeK_n storeK_s store_k all_arr List.take_zero List.take_succ_cons List.drop_succ_cons List.take_nil List.drop_nil lk_own lk_ro lk_lock lk_lk fixed_lk gate_nt gate_nf gate3_b gate3_u undef Bool.true_and Bool.false_and nx_l nx_r nx_lt
def hdv (k v : Int) (d s t : List UInt8) (len num sz : Int) (ph : Bool) (lst : Value) : List Value :=
  [.int .i64 k, .int .i64 v, .string (str d), .string (str s), .string (str t), .int .i64 len, .int .i64 num, .int .i64 sz, .bool ph, lst]
/-- all that was there is as it was -/
def Kept (h h' : Heap) : Prop := h.next ≤ h'.next ∧ ∀ id, id < h.next → h'.get id = h.get id
theorem Kept.refl (h) : Kept h h := ⟨Nat.le_refl _, fun _ _ => rfl⟩
theorem Kept.trans {a b c : Heap} (x : Kept a b) (y : Kept b c) : Kept a c := ⟨Nat.le_trans x.1 y.1, fun i hi => (y.2 i (Nat.lt_of_lt_of_le hi x.1)).trans (x.2 i hi)⟩
theorem Kept.alloc (h : Heap) (b : Blk) : Kept h (h.alloc b) := ⟨by simp only [Heap.alloc]; omega, fun id hi => by simp only [Heap.alloc]; rw [if_neg (by omega)]⟩
theorem Kept.put' {h h' : Heap} (k : Kept h h') {i : Nat} {x : Slot} (hi : h.next ≤ i) : Kept h (h'.put i x) := ⟨k.1, fun id hid => by simp only [Heap.put]; rw [if_neg (by omega)]; exact k.2 id hid⟩
theorem Kept.alloc' {h h' : Heap} (k : Kept h h') {b : Blk} : Kept h (h'.alloc b) := k.trans (Kept.alloc _ _)
theorem SlX.one {h v l} (hs : SlX h v l) : v.oneCell' = true := by rcases hs with ⟨rfl, _⟩ | ⟨_, _, _, _, rfl, _⟩ <;> rfl
theorem SlX.cells {h v l} (hs : SlX h v l) : v.cells = #[v] := by rcases hs with ⟨rfl, _⟩ | ⟨_, _, _, _, rfl, _⟩ <;> exact cells_sl
theorem SlX.kept {h h' v l} (hs : SlX h v l) (hk : Kept h h') (hlt : ∀ a n m, v = .slice (some a) n m → a.block < h.next) : SlX h' v l := by
  rcases hs with x | ⟨i, o, vs, q, rfl, h2, h3, h4⟩
  · exact .inl x
  · exact .inr ⟨i, o, vs, q, rfl, (hk.2 _ (hlt _ _ _ rfl)).trans h2, h3, h4⟩
theorem from_ph (h : Heap) (k v : Int) (d s t : List UInt8) (len num sz : Int) (ph : Bool) (lst : Value) (h1 : lst.oneCell' = true) (h2 : lst.cells = #[lst]) :
    @CallsH Tryd.prog 21 #[.agg (hdv k v d s t len num sz ph lst).toArray] h ⟨fun w h' => w = .agg (hdv k v d s t len num sz ph lst).toArray ∧ Kept h h'⟩ := by
  unfold hdv
  (refine calls_of_vcR (rs := [.cell 2 24]) [] hm Tryd.func21 rfl rfl (by kernel_rfl) (by simp) ?_; simp (config := { dsimp := false, maxSteps := 10000000 }) (disch := omega) only [go_sem, reduceIte, Nat.reduceEqDiff, reduceCtorEq, Nat.reduceAdd, Nat.reduceMul, Int.reduceToNat, Int.reduceLE, Int.reduceLT, Int.reduceEq, Int.reduceNe, Nat.reduceLeDiff, Int.reducePow, Nat.reducePow, Nat.reduceLT, Nat.reduceSub, Nat.reduceMod, Nat.reduceDiv, slot_neg, slot_pos, T.ag_22, T.ag_24, T.ag_3, T.ag_4, T.ag_9, T.fo_31_0, T.fo_31_1, T.fo_31_2, T.fo_31_3, T.fo_31_4, T.fo_31_5, T.fo_31_6, T.fo_31_7, T.fo_31_8, T.fo_31_9, T.pl_24, T.zo_24, init_a, h1, h2])
  exact (Kept.alloc _ _).alloc'.put' (Nat.le_succ _)
theorem Same_ph (h : Heap) (k v : Int) (d s t : List UInt8) (len num sz : Int) (ph : Bool) (l1 l2 : Value) (l : List Int) (h1 : SlX h l1 l) (h2 : SlX h l2 l) (hll : l.length < 9223372036854775807)
    (b1 : ∀ a n m, l1 = .slice (some a) n m → a.block < h.next) (b2 : ∀ a n m, l2 = .slice (some a) n m → a.block < h.next) :
    @CallsH Tryd.prog 20 #[.agg (hdv k v d s t len num sz ph l1).toArray, .agg (hdv k v d s t len num sz ph l2).toArray] h ⟨fun w h' => w = .bool true⟩ := by
  unfold hdv
  have o1 := h1.one
  have o2 := h2.one
  have c1 := h1.cells
  have c2 := h2.cells
  (refine calls_of_vc [] hm Tryd.func20 rfl (ts := [4]) rfl (by kernel_rfl) (by simp) ?_; simp (config := { dsimp := false }) only [go_sem, reduceIte, Nat.reduceEqDiff, reduceCtorEq, Nat.reduceAdd, Nat.reduceMul, Int.reduceToNat, Int.reduceLE, Int.reduceLT, Int.reduceEq, Int.reduceNe, Nat.reduceLeDiff, Int.reducePow, Nat.reducePow, Nat.reduceLT, Nat.reduceSub, Nat.reduceMod, Nat.reduceDiv, T.ag_22, T.ag_3, T.ag_4, T.ag_9, T.fo_24_0, T.fo_24_1, T.fo_24_2, T.fo_24_3, T.fo_24_4, T.fo_24_5, T.fo_24_6, T.fo_24_7, T.fo_24_8, T.fo_24_9, T.gf_46, T.ib_3, T.ib_4, T.ib_9, T.ip_3, T.ip_4, T.ip_9, init_a, o1, o2, c1, c2, beq_self_eq_true])
  refine (Ints_ph _ l1 l2 l l (h1.kept (Kept.alloc _ _).alloc' b1) (h2.kept (Kept.alloc _ _).alloc' b2) hll hll).mono fun w h' hw => ?_
  subst hw
  simp (config := { dsimp := false }) only [go_sem, reduceIte, Nat.reduceEqDiff, reduceCtorEq, Nat.reduceAdd, Nat.reduceMul, Int.reduceToNat, Int.reduceLE, Int.reduceLT, Int.reduceEq, Int.reduceNe, Nat.reduceLeDiff, Int.reducePow, Nat.reducePow, Nat.reduceLT, Nat.reduceSub, Nat.reduceMod, Nat.reduceDiv, T.ag_22, T.ag_3, T.ag_4, T.ag_9, T.fo_24_0, T.fo_24_1, T.fo_24_2, T.fo_24_3, T.fo_24_4, T.fo_24_5, T.fo_24_6, T.fo_24_7, T.fo_24_8, T.fo_24_9, T.gf_46, T.ib_3, T.ib_4, T.ib_9, T.ip_3, T.ip_4, T.ip_9]
end Ph
