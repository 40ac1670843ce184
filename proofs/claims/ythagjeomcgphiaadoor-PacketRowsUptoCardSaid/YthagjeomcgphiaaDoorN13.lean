import Derived.Test.YthagjeomcgphiaaDoorN38
set_option maxRecDepth 100000
set_option maxHeartbeats 8000000
set_option linter.unusedSimpArgs false
set_option linter.unusedVariables false
namespace Ph
open Go Go.Proofs
attribute [local irreducible] Value.cells
attribute [local go_sem ↓] s_move s_assign s_pick s_nil s_bin s_un s_fa s_field s_ext s_ia s_ix s_slice s_conv s_build s_bs s_mf s_alloc s_box s_load s_store s_len s_min s_max s_app s_call q_call q_move q_assign q_pick q_nil q_bin q_un q_fa q_field q_ext q_ia q_ix q_slice q_conv q_build q_mf q_load q_len q_min q_max l_nil l_move l_assign l_pick l_nilc l_bin l_un l_fa l_field l_ext l_ia l_ix l_slice l_conv l_build l_mf l_load l_len l_min l_max l_call put_eq putN_eq o_nil o_plain o_gate v_nil v_plain v_gate vc_skip vc_region vc_seq vc_cond vc_block vc_loop vc_exit vc_ret blk_normal blk_ret blk_exit on_normal on_ret on_exit vc_drawn draw_q s_mk l_bs l_mk l_alloc l_box l_store l_app pl_done pl_take pl_alt pl_stop one_plain one_gate
attribute [local go_sem] onAgg_a onTuple_t onFunc_f c_int c_nil c_sl c_str sl_sl sl_nil sl_str ix_str ix_agg n_nil n_sl n_str app_eq k_nil k_sl len_sl len_str upd_some upd_none ev_tmp ev_const ev_func rd_some gdst_eq otmp_t otmp_c get_put get_alloc next_put next_alloc get_app next_app init_a resV1 resV2 onPtr_ptr onBool_b onInt_i onSlice_s onSome_s onCells_c lett_eq gate_tt gate_tf gate_ff gate_ft gate_dt gate_df also_eq bin un minmax io_none io_some bo_none bo_some partOf List.getElem?_cons_zero List.getElem?_cons_succ List.getElem?_toArray Option.map_some Option.map_none Option.bind_some ne_eq not_true_eq_false not_false_eq_true false_implies true_implies and_true true_and and_self Bool.false_eq_true Nat.zero_add Nat.add_zero List.size_toArray List.length_cons List.length_nil List.map_toArray List.map_cons List.map_nil Array.getD_eq_getD_getElem? Option.getD_some Bool.not_true Bool.not_false Bool.not_eq_true Option.isNone_some Option.isNone_none List.append_toArray List.append_nil List.nil_append List.cons_append decide_true decide_false in_nil in_cons Bool.and_false Bool.and_true Bool.or_false Bool.true_or Bool.false_or get_mask next_mask get_unmask next_unmask ac_move ac_assign ac_pick ac_nil ac_bin ac_un ac_fa ac_field ac_ext ac_ia ac_ix ac_slice ac_build ac_mf ac_call ac_load ac_conv accP_p accS_s accS_n accS_i accS_t fixed_ro fixed_lock fixed_own get_ro next_ro lock_live' lock_cells List.mem_cons List.not_mem_nil or_false false_or or_true true_or and_false false_and IntKind.bits Int.natCast_zero Int.natCast_one size_str data_str list_str mk_str ext_str app_str bytes_str w_byte w_byteu Int.toNat_natCast Int.toNat_zero Int.toNat_one Nat.sub_zero ge_iff_le gt_iff_lt Nat.le_refl Int.le_refl List.drop_zero Int.ofNat_eq_natCast Int.natCast_nonneg Int.sub_zero oc_int oc_bool oc_str oc_ptr oc_sl oc_map oc_func List.set_cons_zero List.set_cons_succ Nat.mul_one List.all_cons List.all_nil Bool.and_self res_nil res_tmp res_cell tup_one tup_two tup_nil fill_nil repl_zero cells_agg List.append_eq List.toList_toArray Nat.zero_mul Nat.one_mul repl_one repl_two onSome_build fill_cons onSome_lit splice_eq cells_int cells_bool cells_str cells_ptr cells_sl cells_map cells_func loadK_n loadK_s load_k storeK_n storeK_s store_k all_arr List.take_zero List.take_succ_cons List.drop_succ_cons List.take_nil List.drop_nil lk_own lk_ro lk_lock lk_lk fixed_lk gate_nt gate_nf gate3_b gate3_u undef Bool.true_and Bool.false_and nx_l nx_r nx_lt
def nmS (v : Int) (d s : List UInt8) : List UInt8 := lowS v.toNat 4 ++ (UInt8.ofNat d.length :: d) ++ (UInt8.ofNat s.length :: s)
def putS (k v : Int) (d s t : List UInt8) (len num sz : Int) (ph : Bool) (l : List Int) : List UInt8 :=
  if k = 4 then UInt8.ofNat (64 + sz.toNat - 1 + if ph then 4 else 0) :: (d ++ lowS num.toNat sz.toNat)
  else if k = 3 then 240 :: (nmS v d s ++ t)
  else if k = 5 then 192 :: (nmS v d s ++ (l.flatMap fun x => lowS x.toNat 4))
  else UInt8.ofNat (192 + 16 * k.toNat + sz.toNat - 1) :: (nmS v d s ++ (if k = 0 then vtextS t else []) ++ vputS len.toNat 2 ++ lowS num.toNat sz.toNat)
def PutR (h : Heap) (k v : Int) (d s t : List UInt8) (len num sz : Int) (ph : Bool) (l : List Int) (w : Value) (h' : Heap) : Prop :=
  Kept h h' ∧ if rightP k v d s t len num sz ph l then ∃ v1 j, w = .tuple #[v1, .int .i64 0] ∧ OwnB h' j v1 (putS k v d s t len num sz ph l) ∧ h.next ≤ j else w = .tuple #[.slice none 0 0, .int .i64 2]
theorem PutR.yes {h : Heap} {k v : Int} {d s t : List UInt8} {len num sz : Int} {ph : Bool} {l : List Int} {w : Value} {h' : Heap} {v1 : Value} {j : Nat} (hr : rightP k v d s t len num sz ph l) (hk : Kept h h') (hw : w = .tuple #[v1, .int .i64 0]) (ho : OwnB h' j v1 (putS k v d s t len num sz ph l)) (hj : h.next ≤ j) : PutR h k v d s t len num sz ph l w h' :=
  ⟨hk, by rw [if_pos hr]; exact ⟨v1, j, hw, ho, hj⟩⟩
theorem or40 (sz : Nat) (h : 1 ≤ sz ∧ sz ≤ 4) : IntKind.u8.wrap (IntKind.i64.wrap (IntKind.i64.wrap ((BitVec.ofInt IntKind.i64.bits 64 ||| BitVec.ofInt IntKind.i64.bits (sz : Int)).toNat : Int) - 1)) = ((UInt8.ofNat (64 + sz - 1)).toNat : Int) := by
  have : sz = 1 ∨ sz = 2 ∨ sz = 3 ∨ sz = 4 := by omega
  rcases this with rfl | rfl | rfl | rfl <;> decide
theorem or4 (sz : Nat) (h : 1 ≤ sz ∧ sz ≤ 4) : IntKind.u8.wrap ((BitVec.ofInt IntKind.u8.bits ((UInt8.ofNat (64 + sz - 1)).toNat : Int) ||| BitVec.ofInt IntKind.u8.bits 4).toNat : Int) = ((UInt8.ofNat (64 + sz - 1 + 4)).toNat : Int) := by
  have : sz = 1 ∨ sz = 2 ∨ sz = 3 ∨ sz = 4 := by omega
  rcases this with rfl | rfl | rfl | rfl <;> decide
theorem fin_un {h h' : Heap} {B : Blk} {j : Nat} {w : Value} {bs : List UInt8} (hO : OwnB h' j w bs) (hj : h.next + 1 ≤ j) : OwnB ((h.alloc B).unmask [] h') j w bs ∧ Kept h ((h.alloc B).unmask [] h') := by
  obtain ⟨h1, h2, h3⟩ := hO
  refine ⟨⟨h1, h2, ?_⟩, ⟨by rw [next_unmask]; omega, fun id hid => ?_⟩⟩
  · rw [get_unmask, if_neg (by rw [next_alloc]; omega)]; exact h3
  · rw [get_unmask, if_pos ⟨by rw [next_alloc]; omega, by simp⟩, get_alloc, if_neg (by omega)]
theorem or192 (k sz : Nat) (hk : k ≤ 2) (h : 1 ≤ sz ∧ sz ≤ 4) : IntKind.u8.wrap (IntKind.i64.wrap (IntKind.i64.wrap ((BitVec.ofInt IntKind.i64.bits (IntKind.i64.wrap ((BitVec.ofInt IntKind.i64.bits 192 ||| BitVec.ofInt IntKind.i64.bits (IntKind.i64.wrap ((k : Int) * 2 ^ min 4 64))).toNat : Int)) ||| BitVec.ofInt IntKind.i64.bits (sz : Int)).toNat : Int) - 1)) = ((UInt8.ofNat (192 + 16 * k + sz - 1)).toNat : Int) := by
  have : sz = 1 ∨ sz = 2 ∨ sz = 3 ∨ sz = 4 := by omega
  have hk : k = 0 ∨ k = 1 ∨ k = 2 := by omega
  rcases hk with rfl | rfl | rfl <;> rcases this with rfl | rfl | rfl | rfl <;> decide
theorem app_own (h : Heap) (j : Nat) (a b : List UInt8) : OwnB (appHeap h ⟨j, 0, none⟩ (bc a ++ bc b)) h.next (.slice (some ⟨h.next, 0, none⟩) (a.length + b.length) 1) (a ++ b) :=
  ⟨by simp, by simp [appHeap], by rw [get_app, if_pos rfl, bc_app]⟩
theorem Put_ph (h : Heap) (k v : Int) (d s t : List UInt8) (len num sz : Int) (ph : Bool) (lst : Value) (l : List Int) (hs : SlX h lst l) (hlt : ∀ a n m, lst = .slice (some a) n m → a.block < h.next) (hll : l.length < 9223372036854775807) :
    @CallsH Tryd.prog 13 #[.agg (hdv k v d s t len num sz ph lst).toArray] h ⟨PutR h k v d s t len num sz ph l⟩ := by
  have o1 := hs.one
  have c1 := hs.cells
  unfold hdv
  (refine calls_of_vc [] hm Tryd.func13 rfl (ts := [2, 3]) rfl (by kernel_rfl) (by simp) ?_; simp (config := { dsimp := false, maxSteps := 10000000 }) (disch := omega) only [go_sem, reduceIte, Nat.reduceEqDiff, reduceCtorEq, Nat.reduceAdd, Nat.reduceMul, Int.reduceToNat, Int.reduceLE, Int.reduceLT, Int.reduceEq, Int.reduceNe, Nat.reduceLeDiff, Int.reducePow, Nat.reducePow, Nat.reduceLT, Nat.reduceSub, Nat.reduceMod, Nat.reduceDiv, slot_neg, slot_pos, T.ag_22, T.ag_3, T.ag_31, T.ag_4, T.ag_9, T.eb_28, T.es_22, T.ez_28, T.fo_31_0, T.fo_31_2, T.fo_31_4, T.fo_31_5, T.fo_31_6, T.fo_31_7, T.fo_31_8, T.fo_31_9, T.gf_36, T.gf_37, T.gf_38, T.gf_39, T.gf_40, T.ib_3, T.ib_5, T.ii_22, T.ii_28, T.ii_3, T.ii_5, T.ii_9, T.ip_3, T.ip_5, T.s8_22, T.s8_28, T.s8_3, T.s8_5, T.s8_9, T.sl_22, T.sl_28, T.sl_3, T.sl_5, T.sl_9, T.st_22, T.st_28, T.st_3, T.st_5, T.st_9, T.un_22, T.un_28, T.un_3, T.un_5, T.un_9, init_a, o1, c1])
  have hsl : SlX (h.alloc (.cells [.int .i64 k, .int .i64 v, .string (str d), .string (str s), .string (str t), .int .i64 len, .int .i64 num, .int .i64 sz, .bool ph, lst] .own)) lst l := hs.kept (Kept.alloc _ _) hlt
  refine CallsH.pure _ rfl (right_ph _ k v d s t len num sz ph lst l hsl.ro (fun a n m e => Nat.lt_succ_of_lt (hlt a n m e)) hll) ?_
  by_cases hr : rightP k v d s t len num sz ph l
  case neg =>
    have e : decide (rightP k v d s t len num sz ph l) = false := decide_eq_false hr
    simp (config := { dsimp := false, maxSteps := 10000000 }) (disch := omega) only [go_sem, reduceIte, Nat.reduceEqDiff, reduceCtorEq, Nat.reduceAdd, Nat.reduceMul, Int.reduceToNat, Int.reduceLE, Int.reduceLT, Int.reduceEq, Int.reduceNe, Nat.reduceLeDiff, Int.reducePow, Nat.reducePow, Nat.reduceLT, Nat.reduceSub, Nat.reduceMod, Nat.reduceDiv, slot_neg, slot_pos, T.ag_22, T.ag_3, T.ag_31, T.ag_4, T.ag_9, T.eb_28, T.es_22, T.ez_28, T.fo_31_0, T.fo_31_2, T.fo_31_4, T.fo_31_5, T.fo_31_6, T.fo_31_7, T.fo_31_8, T.fo_31_9, T.gf_36, T.gf_37, T.gf_38, T.gf_39, T.gf_40, T.ib_3, T.ib_5, T.ii_22, T.ii_28, T.ii_3, T.ii_5, T.ii_9, T.ip_3, T.ip_5, T.s8_22, T.s8_28, T.s8_3, T.s8_5, T.s8_9, T.sl_22, T.sl_28, T.sl_3, T.sl_5, T.sl_9, T.st_22, T.st_28, T.st_3, T.st_5, T.st_9, T.un_22, T.un_28, T.un_3, T.un_5, T.un_9, e]
    exact ⟨Kept.alloc _ _, by rw [if_neg hr]⟩
  have e : decide (rightP k v d s t len num sz ph l) = true := decide_eq_true hr
  obtain ⟨⟨hd, hsl20, ht5, hv, hlen, hnum, hl16, hlw⟩, hcase⟩ := id hr
  have hvw : 0 ≤ v ∧ v ≤ 4294967295 := by simpa [isW] using hv
  rcases hcase with ⟨hk, hl0, hsz, hv0, hph, hkt⟩ | ⟨rfl, hl0, hbare, hv0⟩ | ⟨rfl, hl0, hsz, hv0, hlen0, hs0, ht0⟩ | ⟨rfl, hl0, hbare, hv0, ht0⟩
  case inr.inr.inl =>
    obtain ⟨N, rfl⟩ : ∃ N : Nat, num = N := ⟨num.toNat, by omega⟩
    obtain ⟨Z, rfl⟩ : ∃ Z : Nat, sz = Z := ⟨sz.toNat, by omega⟩
    have hz : 1 ≤ Z ∧ Z ≤ 4 := by omega
    have hb := or40 Z hz
    have hb4 := or4 Z hz
    have dl : d.length ≤ 20 := hd
    cases ph
    · have hput : putS 4 v d s t len N Z false l = UInt8.ofNat (64 + Z - 1) :: (d ++ lowS N Z) := by rw [putS, if_pos rfl]; rfl
      simp (config := { dsimp := false, maxSteps := 10000000 }) (disch := omega) only [go_sem, reduceIte, Nat.reduceEqDiff, reduceCtorEq, Nat.reduceAdd, Nat.reduceMul, Int.reduceToNat, Int.reduceLE, Int.reduceLT, Int.reduceEq, Int.reduceNe, Nat.reduceLeDiff, Int.reducePow, Nat.reducePow, Nat.reduceLT, Nat.reduceSub, Nat.reduceMod, Nat.reduceDiv, slot_neg, slot_pos, T.ag_22, T.ag_3, T.ag_31, T.ag_4, T.ag_9, T.eb_28, T.es_22, T.ez_28, T.fo_31_0, T.fo_31_2, T.fo_31_4, T.fo_31_5, T.fo_31_6, T.fo_31_7, T.fo_31_8, T.fo_31_9, T.gf_36, T.gf_37, T.gf_38, T.gf_39, T.gf_40, T.ib_3, T.ib_5, T.ii_22, T.ii_28, T.ii_3, T.ii_5, T.ii_9, T.ip_3, T.ip_5, T.s8_22, T.s8_28, T.s8_3, T.s8_5, T.s8_9, T.sl_22, T.sl_28, T.sl_3, T.sl_5, T.sl_9, T.st_22, T.st_28, T.st_3, T.st_5, T.st_9, T.un_22, T.un_28, T.un_3, T.un_5, T.un_9, e, hb]
      refine draw_plan [] (.take 0 (.take 2 (.take 3 (.take 5 (.take 6 (.take 7 (.take 8 (.alt 1 (.alt 4 (.alt 9 (.take 10 (.take 11 .done)) .stop) .stop) .stop)))))))) hm (by kernel_rfl) (by kernel_rfl) ?_
      simp (config := { dsimp := false, maxSteps := 10000000 }) (disch := omega) only [go_sem, reduceIte, Nat.reduceEqDiff, reduceCtorEq, Nat.reduceAdd, Nat.reduceMul, Int.reduceToNat, Int.reduceLE, Int.reduceLT, Int.reduceEq, Int.reduceNe, Nat.reduceLeDiff, Int.reducePow, Nat.reducePow, Nat.reduceLT, Nat.reduceSub, Nat.reduceMod, Nat.reduceDiv, slot_neg, slot_pos, T.ag_22, T.ag_3, T.ag_31, T.ag_4, T.ag_9, T.eb_28, T.es_22, T.ez_28, T.fo_31_0, T.fo_31_2, T.fo_31_4, T.fo_31_5, T.fo_31_6, T.fo_31_7, T.fo_31_8, T.fo_31_9, T.gf_36, T.gf_37, T.gf_38, T.gf_39, T.gf_40, T.ib_3, T.ib_5, T.ii_22, T.ii_28, T.ii_3, T.ii_5, T.ii_9, T.ip_3, T.ip_5, T.s8_22, T.s8_28, T.s8_3, T.s8_5, T.s8_9, T.sl_22, T.sl_28, T.sl_3, T.sl_5, T.sl_9, T.st_22, T.st_28, T.st_3, T.st_5, T.st_9, T.un_22, T.un_28, T.un_3, T.un_5, T.un_9, bc_one]
      generalize UInt8.ofNat (64 + Z - 1) = B at hput ⊢
      refine ⟨⟨by omega, by omega⟩, (low_ph _ (h.next + 1 + 1) _ (B :: d) N Z ⟨by rw [List.length_cons, Nat.add_comm d.length 1], by simp [appHeap, Heap.alloc, Heap.mask], by rw [get_app, if_pos (by simp [Heap.alloc, Heap.mask])]; rfl⟩ (by simp; omega) (by omega) (by omega)).mono fun w h' ⟨j, hO, hji, _⟩ => ?_⟩
      have hjn : h.next + 1 ≤ j := by simp [appHeap, Heap.alloc, Heap.mask] at hji; omega
      simp (config := { dsimp := false, maxSteps := 10000000 }) (disch := omega) only [go_sem, reduceIte, Nat.reduceEqDiff, reduceCtorEq, Nat.reduceAdd, Nat.reduceMul, Int.reduceToNat, Int.reduceLE, Int.reduceLT, Int.reduceEq, Int.reduceNe, Nat.reduceLeDiff, Int.reducePow, Nat.reducePow, Nat.reduceLT, Nat.reduceSub, Nat.reduceMod, Nat.reduceDiv, slot_neg, slot_pos, T.ag_22, T.ag_3, T.ag_31, T.ag_4, T.ag_9, T.eb_28, T.es_22, T.ez_28, T.fo_31_0, T.fo_31_2, T.fo_31_4, T.fo_31_5, T.fo_31_6, T.fo_31_7, T.fo_31_8, T.fo_31_9, T.gf_36, T.gf_37, T.gf_38, T.gf_39, T.gf_40, T.ib_3, T.ib_5, T.ii_22, T.ii_28, T.ii_3, T.ii_5, T.ii_9, T.ip_3, T.ip_5, T.s8_22, T.s8_28, T.s8_3, T.s8_5, T.s8_9, T.sl_22, T.sl_28, T.sl_3, T.sl_5, T.sl_9, T.st_22, T.st_28, T.st_3, T.st_5, T.st_9, T.un_22, T.un_28, T.un_3, T.un_5, T.un_9]
      obtain ⟨f1, f2⟩ := fin_un (B := .cells [.int .i64 4, .int .i64 v, .string (str d), .string (str s), .string (str t), .int .i64 len, .int .i64 N, .int .i64 Z, .bool false, lst] .own) hO hjn
      exact PutR.yes hr f2 rfl (by rw [hput]; exact f1) (by omega)
    · have hput : putS 4 v d s t len N Z true l = UInt8.ofNat (64 + Z - 1 + 4) :: (d ++ lowS N Z) := by rw [putS, if_pos rfl]; rfl
      simp (config := { dsimp := false, maxSteps := 10000000 }) (disch := omega) only [go_sem, reduceIte, Nat.reduceEqDiff, reduceCtorEq, Nat.reduceAdd, Nat.reduceMul, Int.reduceToNat, Int.reduceLE, Int.reduceLT, Int.reduceEq, Int.reduceNe, Nat.reduceLeDiff, Int.reducePow, Nat.reducePow, Nat.reduceLT, Nat.reduceSub, Nat.reduceMod, Nat.reduceDiv, slot_neg, slot_pos, T.ag_22, T.ag_3, T.ag_31, T.ag_4, T.ag_9, T.eb_28, T.es_22, T.ez_28, T.fo_31_0, T.fo_31_2, T.fo_31_4, T.fo_31_5, T.fo_31_6, T.fo_31_7, T.fo_31_8, T.fo_31_9, T.gf_36, T.gf_37, T.gf_38, T.gf_39, T.gf_40, T.ib_3, T.ib_5, T.ii_22, T.ii_28, T.ii_3, T.ii_5, T.ii_9, T.ip_3, T.ip_5, T.s8_22, T.s8_28, T.s8_3, T.s8_5, T.s8_9, T.sl_22, T.sl_28, T.sl_3, T.sl_5, T.sl_9, T.st_22, T.st_28, T.st_3, T.st_5, T.st_9, T.un_22, T.un_28, T.un_3, T.un_5, T.un_9, e, hb, hb4]
      refine draw_plan [] (.take 0 (.take 2 (.take 3 (.take 5 (.take 6 (.take 7 (.take 8 (.alt 1 (.alt 4 (.alt 9 (.take 10 (.take 11 .done)) .stop) .stop) .stop)))))))) hm (by kernel_rfl) (by kernel_rfl) ?_
      simp (config := { dsimp := false, maxSteps := 10000000 }) (disch := omega) only [go_sem, reduceIte, Nat.reduceEqDiff, reduceCtorEq, Nat.reduceAdd, Nat.reduceMul, Int.reduceToNat, Int.reduceLE, Int.reduceLT, Int.reduceEq, Int.reduceNe, Nat.reduceLeDiff, Int.reducePow, Nat.reducePow, Nat.reduceLT, Nat.reduceSub, Nat.reduceMod, Nat.reduceDiv, slot_neg, slot_pos, T.ag_22, T.ag_3, T.ag_31, T.ag_4, T.ag_9, T.eb_28, T.es_22, T.ez_28, T.fo_31_0, T.fo_31_2, T.fo_31_4, T.fo_31_5, T.fo_31_6, T.fo_31_7, T.fo_31_8, T.fo_31_9, T.gf_36, T.gf_37, T.gf_38, T.gf_39, T.gf_40, T.ib_3, T.ib_5, T.ii_22, T.ii_28, T.ii_3, T.ii_5, T.ii_9, T.ip_3, T.ip_5, T.s8_22, T.s8_28, T.s8_3, T.s8_5, T.s8_9, T.sl_22, T.sl_28, T.sl_3, T.sl_5, T.sl_9, T.st_22, T.st_28, T.st_3, T.st_5, T.st_9, T.un_22, T.un_28, T.un_3, T.un_5, T.un_9, bc_one]
      generalize UInt8.ofNat (64 + Z - 1 + 4) = B at hput ⊢
      refine ⟨⟨by omega, by omega⟩, (low_ph _ (h.next + 1 + 1) _ (B :: d) N Z ⟨by rw [List.length_cons, Nat.add_comm d.length 1], by simp [appHeap, Heap.alloc, Heap.mask], by rw [get_app, if_pos (by simp [Heap.alloc, Heap.mask])]; rfl⟩ (by simp; omega) (by omega) (by omega)).mono fun w h' ⟨j, hO, hji, _⟩ => ?_⟩
      have hjn : h.next + 1 ≤ j := by simp [appHeap, Heap.alloc, Heap.mask] at hji; omega
      simp (config := { dsimp := false, maxSteps := 10000000 }) (disch := omega) only [go_sem, reduceIte, Nat.reduceEqDiff, reduceCtorEq, Nat.reduceAdd, Nat.reduceMul, Int.reduceToNat, Int.reduceLE, Int.reduceLT, Int.reduceEq, Int.reduceNe, Nat.reduceLeDiff, Int.reducePow, Nat.reducePow, Nat.reduceLT, Nat.reduceSub, Nat.reduceMod, Nat.reduceDiv, slot_neg, slot_pos, T.ag_22, T.ag_3, T.ag_31, T.ag_4, T.ag_9, T.eb_28, T.es_22, T.ez_28, T.fo_31_0, T.fo_31_2, T.fo_31_4, T.fo_31_5, T.fo_31_6, T.fo_31_7, T.fo_31_8, T.fo_31_9, T.gf_36, T.gf_37, T.gf_38, T.gf_39, T.gf_40, T.ib_3, T.ib_5, T.ii_22, T.ii_28, T.ii_3, T.ii_5, T.ii_9, T.ip_3, T.ip_5, T.s8_22, T.s8_28, T.s8_3, T.s8_5, T.s8_9, T.sl_22, T.sl_28, T.sl_3, T.sl_5, T.sl_9, T.st_22, T.st_28, T.st_3, T.st_5, T.st_9, T.un_22, T.un_28, T.un_3, T.un_5, T.un_9]
      obtain ⟨f1, f2⟩ := fin_un (B := .cells [.int .i64 4, .int .i64 v, .string (str d), .string (str s), .string (str t), .int .i64 len, .int .i64 N, .int .i64 Z, .bool true, lst] .own) hO hjn
      exact PutR.yes hr f2 rfl (by rw [hput]; exact f1) (by omega)
  case inr.inl =>
    obtain ⟨V, rfl⟩ : ∃ V : Nat, v = V := ⟨v.toNat, by omega⟩
    simp (config := { dsimp := false, maxSteps := 10000000 }) (disch := omega) only [go_sem, reduceIte, Nat.reduceEqDiff, reduceCtorEq, Nat.reduceAdd, Nat.reduceMul, Int.reduceToNat, Int.reduceLE, Int.reduceLT, Int.reduceEq, Int.reduceNe, Nat.reduceLeDiff, Int.reducePow, Nat.reducePow, Nat.reduceLT, Nat.reduceSub, Nat.reduceMod, Nat.reduceDiv, slot_neg, slot_pos, T.ag_22, T.ag_3, T.ag_31, T.ag_4, T.ag_9, T.eb_28, T.es_22, T.ez_28, T.fo_31_0, T.fo_31_2, T.fo_31_4, T.fo_31_5, T.fo_31_6, T.fo_31_7, T.fo_31_8, T.fo_31_9, T.gf_36, T.gf_37, T.gf_38, T.gf_39, T.gf_40, T.ib_3, T.ib_5, T.ii_22, T.ii_28, T.ii_3, T.ii_5, T.ii_9, T.ip_3, T.ip_5, T.s8_22, T.s8_28, T.s8_3, T.s8_5, T.s8_9, T.sl_22, T.sl_28, T.sl_3, T.sl_5, T.sl_9, T.st_22, T.st_28, T.st_3, T.st_5, T.st_9, T.un_22, T.un_28, T.un_3, T.un_5, T.un_9, e]
    refine draw_plan [] (.take 0 (.take 3 (.take 4 (.alt 1 (.alt 2 (.alt 5 (.take 6 (.take 7 .done)) .stop) .stop) .stop)))) hm (by kernel_rfl) (by kernel_rfl) ?_
    simp (config := { dsimp := false, maxSteps := 10000000 }) (disch := omega) only [go_sem, reduceIte, Nat.reduceEqDiff, reduceCtorEq, Nat.reduceAdd, Nat.reduceMul, Int.reduceToNat, Int.reduceLE, Int.reduceLT, Int.reduceEq, Int.reduceNe, Nat.reduceLeDiff, Int.reducePow, Nat.reducePow, Nat.reduceLT, Nat.reduceSub, Nat.reduceMod, Nat.reduceDiv, slot_neg, slot_pos, T.ag_22, T.ag_3, T.ag_31, T.ag_4, T.ag_9, T.eb_28, T.es_22, T.ez_28, T.fo_31_0, T.fo_31_2, T.fo_31_4, T.fo_31_5, T.fo_31_6, T.fo_31_7, T.fo_31_8, T.fo_31_9, T.gf_36, T.gf_37, T.gf_38, T.gf_39, T.gf_40, T.ib_3, T.ib_5, T.ii_22, T.ii_28, T.ii_3, T.ii_5, T.ii_9, T.ip_3, T.ip_5, T.s8_22, T.s8_28, T.s8_3, T.s8_5, T.s8_9, T.sl_22, T.sl_28, T.sl_3, T.sl_5, T.sl_9, T.st_22, T.st_28, T.st_3, T.st_5, T.st_9, T.un_22, T.un_28, T.un_3, T.un_5, T.un_9, o1, c1]
    refine (names_ph _ (h.next + 1) _ [240] ⟨rfl, by simp [Heap.alloc, Heap.mask], by rw [get_alloc, if_pos (by simp [Heap.alloc, Heap.mask])]; rfl⟩ (by simp) 3 V d s t len num sz ph lst o1 c1 (by omega) hd hsl20).mono fun w h' ⟨j, ⟨hw, hj, hg⟩, hji, hK⟩ => ?_
    subst hw
    have hjn : h.next + 1 ≤ j := by simp [Heap.alloc, Heap.mask] at hji; omega
    have hput : putS 3 V d s t len num sz ph l = ([240] ++ lowS V 4 ++ (UInt8.ofNat d.length :: d) ++ (UInt8.ofNat s.length :: s)) ++ t := by
      rw [putS, if_neg (by decide), if_pos rfl]; simp [nmS]
    have hnl : ([240] ++ lowS V 4 ++ (UInt8.ofNat d.length :: d) ++ (UInt8.ofNat s.length :: s)).length ≤ 47 := by simp [lowS_len]; omega
    generalize ([240] ++ lowS V 4 ++ (UInt8.ofNat d.length :: d) ++ (UInt8.ofNat s.length :: s)) = nm at hg hput hnl ⊢
    have ht : List.take nm.length (bc nm) = bc nm := List.take_of_length_le (by rw [bc_len]; exact Nat.le_refl _)
    simp (config := { dsimp := false, maxSteps := 10000000 }) (disch := omega) only [go_sem, reduceIte, Nat.reduceEqDiff, reduceCtorEq, Nat.reduceAdd, Nat.reduceMul, Int.reduceToNat, Int.reduceLE, Int.reduceLT, Int.reduceEq, Int.reduceNe, Nat.reduceLeDiff, Int.reducePow, Nat.reducePow, Nat.reduceLT, Nat.reduceSub, Nat.reduceMod, Nat.reduceDiv, slot_neg, slot_pos, T.ag_22, T.ag_3, T.ag_31, T.ag_4, T.ag_9, T.eb_28, T.es_22, T.ez_28, T.fo_31_0, T.fo_31_2, T.fo_31_4, T.fo_31_5, T.fo_31_6, T.fo_31_7, T.fo_31_8, T.fo_31_9, T.gf_36, T.gf_37, T.gf_38, T.gf_39, T.gf_40, T.ib_3, T.ib_5, T.ii_22, T.ii_28, T.ii_3, T.ii_5, T.ii_9, T.ip_3, T.ip_5, T.s8_22, T.s8_28, T.s8_3, T.s8_5, T.s8_9, T.sl_22, T.sl_28, T.sl_3, T.sl_5, T.sl_9, T.st_22, T.st_28, T.st_3, T.st_5, T.st_9, T.un_22, T.un_28, T.un_3, T.un_5, T.un_9, hg, ht, bc_len, bc_one]
    refine ⟨⟨by omega, by omega⟩, ?_⟩
    have hn2 : h.next + 1 ≤ h'.next := by have := hK.1; simp [Heap.alloc, Heap.mask] at this; omega
    obtain ⟨f1, f2⟩ := fin_un (B := .cells [.int .i64 3, .int .i64 V, .string (str d), .string (str s), .string (str t), .int .i64 len, .int .i64 num, .int .i64 sz, .bool ph, lst] .own) (app_own h' j nm t) hn2
    exact PutR.yes hr f2 rfl (by rw [hput]; exact f1) (by omega)
  case inr.inr.inr =>
    obtain ⟨V, rfl⟩ : ∃ V : Nat, v = V := ⟨v.toNat, by omega⟩
    simp (config := { dsimp := false, maxSteps := 10000000 }) (disch := omega) only [go_sem, reduceIte, Nat.reduceEqDiff, reduceCtorEq, Nat.reduceAdd, Nat.reduceMul, Int.reduceToNat, Int.reduceLE, Int.reduceLT, Int.reduceEq, Int.reduceNe, Nat.reduceLeDiff, Int.reducePow, Nat.reducePow, Nat.reduceLT, Nat.reduceSub, Nat.reduceMod, Nat.reduceDiv, slot_neg, slot_pos, T.ag_22, T.ag_3, T.ag_31, T.ag_4, T.ag_9, T.eb_28, T.es_22, T.ez_28, T.fo_31_0, T.fo_31_2, T.fo_31_4, T.fo_31_5, T.fo_31_6, T.fo_31_7, T.fo_31_8, T.fo_31_9, T.gf_36, T.gf_37, T.gf_38, T.gf_39, T.gf_40, T.ib_3, T.ib_5, T.ii_22, T.ii_28, T.ii_3, T.ii_5, T.ii_9, T.ip_3, T.ip_5, T.s8_22, T.s8_28, T.s8_3, T.s8_5, T.s8_9, T.sl_22, T.sl_28, T.sl_3, T.sl_5, T.sl_9, T.st_22, T.st_28, T.st_3, T.st_5, T.st_9, T.un_22, T.un_28, T.un_3, T.un_5, T.un_9, e, o1, c1]
    refine (names_ph _ (h.next + 1) _ [192] ⟨rfl, by simp [Heap.alloc], by rw [get_alloc, if_pos (by simp [Heap.alloc])]; rfl⟩ (by simp) 5 V d s t len num sz ph lst o1 c1 (by omega) hd hsl20).mono fun w h' ⟨j, ⟨hw, hj, hg⟩, hji, hK⟩ => ?_
    subst hw
    have hjn : h.next + 1 ≤ j := by simp [Heap.alloc] at hji; omega
    have hput : putS 5 V d s t len num sz ph l = ([192] ++ lowS V 4 ++ (UInt8.ofNat d.length :: d) ++ (UInt8.ofNat s.length :: s)) ++ l.flatMap (fun x => lowS x.toNat 4) := by
      rw [putS, if_neg (by decide), if_neg (by decide), if_pos rfl]; simp [nmS]
    have hnl : ([192] ++ lowS V 4 ++ (UInt8.ofNat d.length :: d) ++ (UInt8.ofNat s.length :: s)).length ≤ 47 := by simp [lowS_len]; omega
    generalize ([192] ++ lowS V 4 ++ (UInt8.ofNat d.length :: d) ++ (UInt8.ofNat s.length :: s)) = nm at hg hput hnl ⊢
    have hbox : h'.get h.next = .live (.cells [.int .i64 5, .int .i64 V, .string (str d), .string (str s), .string (str t), .int .i64 len, .int .i64 num, .int .i64 sz, .bool ph, lst] .own) := by
      rw [hK.2 h.next (by simp [Heap.alloc]; omega) (by omega), get_alloc, if_neg (by simp [Heap.alloc]), get_alloc, if_pos rfl]
    have hkept : Kept h h' := ⟨by have := hK.1; simp [Heap.alloc] at this; omega, fun id hid => by
      rw [hK.2 id (by simp [Heap.alloc]; omega) (by omega), get_alloc, if_neg (by simp [Heap.alloc]; omega), get_alloc, if_neg (by omega)]⟩
    have hlv : ∃ A m, lst = .slice A l.length m := by rcases hs with ⟨rfl, rfl⟩ | ⟨_, _, _, _, rfl, _⟩ <;> exact ⟨_, _, rfl⟩
    obtain ⟨A, m, hlv⟩ := hlv
    simp (config := { dsimp := false, maxSteps := 10000000 }) (disch := omega) only [go_sem, reduceIte, Nat.reduceEqDiff, reduceCtorEq, Nat.reduceAdd, Nat.reduceMul, Int.reduceToNat, Int.reduceLE, Int.reduceLT, Int.reduceEq, Int.reduceNe, Nat.reduceLeDiff, Int.reducePow, Nat.reducePow, Nat.reduceLT, Nat.reduceSub, Nat.reduceMod, Nat.reduceDiv, slot_neg, slot_pos, T.ag_22, T.ag_3, T.ag_31, T.ag_4, T.ag_9, T.eb_28, T.es_22, T.ez_28, T.fo_31_0, T.fo_31_2, T.fo_31_4, T.fo_31_5, T.fo_31_6, T.fo_31_7, T.fo_31_8, T.fo_31_9, T.gf_36, T.gf_37, T.gf_38, T.gf_39, T.gf_40, T.ib_3, T.ib_5, T.ii_22, T.ii_28, T.ii_3, T.ii_5, T.ii_9, T.ip_3, T.ip_5, T.s8_22, T.s8_28, T.s8_3, T.s8_5, T.s8_9, T.sl_22, T.sl_28, T.sl_3, T.sl_5, T.sl_9, T.st_22, T.st_28, T.st_3, T.st_5, T.st_9, T.un_22, T.un_28, T.un_3, T.un_5, T.un_9, hbox, hlv]
    refine loop_intro [] hm (fun r H => ∃ (j : Nat) (acc : List UInt8) (x : Nat), r 53 = lst ∧ r 54 = .int .i64 l.length ∧ r 55 = .int .i64 x ∧ OwnB H j (r 5) acc ∧ h.next + 1 ≤ j ∧ Kept h H ∧ acc = nm ++ (l.take x).flatMap (fun x => lowS x.toNat 4) ∧ x ≤ l.length ∧ acc.length ≤ 47 + 4 * x) (fun r _ => match r 55 with | .int _ x => l.length - x.toNat | _ => 0) ?_ ?_
    · exact ⟨j, nm, 0, by simp [upd, hlv], by simp [upd], by simp [upd], ⟨by simp [upd], hj, hg⟩, hjn, hkept, by simp, by omega, by omega⟩
    · rintro r H ⟨j, acc, x, h53, h54, h55, ⟨h5, hj, hg⟩, hjn, hkept, hacc, hxl, hal⟩
      by_cases hx : x < l.length
      · have hx' : ((x : Int) < (l.length : Int)) = True := eq_true (by omega)
        rcases hs.kept hkept hlt with ⟨_, hnil⟩ | ⟨p, o, vs, q, e1, e2, e3, e4⟩
        · rw [hnil] at hx; simp at hx
        · have g1 := SlX.get e3 hx
          have hwx : isW (l.getD x 0) = true := by
            have := List.any_eq_false.1 hlw l[x] (List.getElem_mem hx)
            simpa [List.getD_eq_getElem?_getD, hx] using this
          have hwb : 0 ≤ l.getD x 0 ∧ l.getD x 0 ≤ 4294967295 := by simpa [isW] using hwx
          obtain ⟨X, hX⟩ : ∃ X : Nat, l.getD x 0 = X := ⟨(l.getD x 0).toNat, by omega⟩
          rw [hX] at g1 hwb
          rw [e1] at h53
          simp (config := { dsimp := false, maxSteps := 10000000 }) (disch := omega) only [go_sem, reduceIte, Nat.reduceEqDiff, reduceCtorEq, Nat.reduceAdd, Nat.reduceMul, Int.reduceToNat, Int.reduceLE, Int.reduceLT, Int.reduceEq, Int.reduceNe, Nat.reduceLeDiff, Int.reducePow, Nat.reducePow, Nat.reduceLT, Nat.reduceSub, Nat.reduceMod, Nat.reduceDiv, slot_neg, slot_pos, T.ag_22, T.ag_3, T.ag_31, T.ag_4, T.ag_9, T.eb_28, T.es_22, T.ez_28, T.fo_31_0, T.fo_31_2, T.fo_31_4, T.fo_31_5, T.fo_31_6, T.fo_31_7, T.fo_31_8, T.fo_31_9, T.gf_36, T.gf_37, T.gf_38, T.gf_39, T.gf_40, T.ib_3, T.ib_5, T.ii_22, T.ii_28, T.ii_3, T.ii_5, T.ii_9, T.ip_3, T.ip_5, T.s8_22, T.s8_28, T.s8_3, T.s8_5, T.s8_9, T.sl_22, T.sl_28, T.sl_3, T.sl_5, T.sl_9, T.st_22, T.st_28, T.st_3, T.st_5, T.st_9, T.un_22, T.un_28, T.un_3, T.un_5, T.un_9, h53, h54, h55, h5, hx', e2, g1]
          refine (low_ph H j _ acc X 4 ⟨rfl, hj, hg⟩ (by omega) (by omega) (by omega)).mono fun w H2 ⟨j2, hO2, hj2, hK2⟩ => ?_
          have w1 : IntKind.i64.wrap ((x : Int) + 1) = ((x + 1 : Nat) : Int) := by rw [i64wrap] <;> omega
          simp (config := { dsimp := false, maxSteps := 10000000 }) (disch := omega) only [go_sem, reduceIte, Nat.reduceEqDiff, reduceCtorEq, Nat.reduceAdd, Nat.reduceMul, Int.reduceToNat, Int.reduceLE, Int.reduceLT, Int.reduceEq, Int.reduceNe, Nat.reduceLeDiff, Int.reducePow, Nat.reducePow, Nat.reduceLT, Nat.reduceSub, Nat.reduceMod, Nat.reduceDiv, slot_neg, slot_pos, T.ag_22, T.ag_3, T.ag_31, T.ag_4, T.ag_9, T.eb_28, T.es_22, T.ez_28, T.fo_31_0, T.fo_31_2, T.fo_31_4, T.fo_31_5, T.fo_31_6, T.fo_31_7, T.fo_31_8, T.fo_31_9, T.gf_36, T.gf_37, T.gf_38, T.gf_39, T.gf_40, T.ib_3, T.ib_5, T.ii_22, T.ii_28, T.ii_3, T.ii_5, T.ii_9, T.ip_3, T.ip_5, T.s8_22, T.s8_28, T.s8_3, T.s8_5, T.s8_9, T.sl_22, T.sl_28, T.sl_3, T.sl_5, T.sl_9, T.st_22, T.st_28, T.st_3, T.st_5, T.st_9, T.un_22, T.un_28, T.un_3, T.un_5, T.un_9, h53, h54, h55, w1]
          refine ⟨⟨j2, acc ++ lowS X 4, x + 1, e1.symm, rfl, hO2, by have := hkept.1; omega, ⟨Nat.le_trans hkept.1 hK2.1, fun id hid => (hK2.2 id (Nat.lt_of_lt_of_le hid hkept.1) (by omega)).trans (hkept.2 id hid)⟩, ?_, by omega, by simp [lowS_len]; omega⟩, by omega⟩
          rw [take_stepI hx, List.flatMap_append, hacc, hX]
          simp
      · have hx' : ((x : Int) < (l.length : Int)) = False := eq_false (by omega)
        simp (config := { dsimp := false, maxSteps := 10000000 }) (disch := omega) only [go_sem, reduceIte, Nat.reduceEqDiff, reduceCtorEq, Nat.reduceAdd, Nat.reduceMul, Int.reduceToNat, Int.reduceLE, Int.reduceLT, Int.reduceEq, Int.reduceNe, Nat.reduceLeDiff, Int.reducePow, Nat.reducePow, Nat.reduceLT, Nat.reduceSub, Nat.reduceMod, Nat.reduceDiv, slot_neg, slot_pos, T.ag_22, T.ag_3, T.ag_31, T.ag_4, T.ag_9, T.eb_28, T.es_22, T.ez_28, T.fo_31_0, T.fo_31_2, T.fo_31_4, T.fo_31_5, T.fo_31_6, T.fo_31_7, T.fo_31_8, T.fo_31_9, T.gf_36, T.gf_37, T.gf_38, T.gf_39, T.gf_40, T.ib_3, T.ib_5, T.ii_22, T.ii_28, T.ii_3, T.ii_5, T.ii_9, T.ip_3, T.ip_5, T.s8_22, T.s8_28, T.s8_3, T.s8_5, T.s8_9, T.sl_22, T.sl_28, T.sl_3, T.sl_5, T.sl_9, T.st_22, T.st_28, T.st_3, T.st_5, T.st_9, T.un_22, T.un_28, T.un_3, T.un_5, T.un_9, h53, h54, h55, h5, hx']
        refine PutR.yes hr hkept rfl ⟨?_, hj, ?_⟩ (by omega)
        · rw [hput, hacc, List.take_of_length_le (by omega)]
        · rw [hput, hg, hacc, List.take_of_length_le (by omega)]
  obtain ⟨V, rfl⟩ : ∃ V : Nat, v = V := ⟨v.toNat, by omega⟩
  obtain ⟨N, rfl⟩ : ∃ N : Nat, num = N := ⟨num.toNat, by omega⟩
  obtain ⟨Z, rfl⟩ : ∃ Z : Nat, sz = Z := ⟨sz.toNat, by omega⟩
  obtain ⟨L, rfl⟩ : ∃ L : Nat, len = L := ⟨len.toNat, by omega⟩
  obtain ⟨K, rfl⟩ : ∃ K : Nat, k = K := ⟨k.toNat, by omega⟩
  have hK3 : K ≤ 2 := by omega
  have hz : 1 ≤ Z ∧ Z ≤ 4 := by omega
  have hb := or192 K Z hK3 hz
  have k4 : ((K : Int) = 4) = False := eq_false (by omega)
  have k3 : ((K : Int) = 3) = False := eq_false (by omega)
  have k5 : ((K : Int) = 5) = False := eq_false (by omega)
  simp (config := { dsimp := false, maxSteps := 10000000 }) (disch := omega) only [go_sem, reduceIte, Nat.reduceEqDiff, reduceCtorEq, Nat.reduceAdd, Nat.reduceMul, Int.reduceToNat, Int.reduceLE, Int.reduceLT, Int.reduceEq, Int.reduceNe, Nat.reduceLeDiff, Int.reducePow, Nat.reducePow, Nat.reduceLT, Nat.reduceSub, Nat.reduceMod, Nat.reduceDiv, slot_neg, slot_pos, T.ag_22, T.ag_3, T.ag_31, T.ag_4, T.ag_9, T.eb_28, T.es_22, T.ez_28, T.fo_31_0, T.fo_31_2, T.fo_31_4, T.fo_31_5, T.fo_31_6, T.fo_31_7, T.fo_31_8, T.fo_31_9, T.gf_36, T.gf_37, T.gf_38, T.gf_39, T.gf_40, T.ib_3, T.ib_5, T.ii_22, T.ii_28, T.ii_3, T.ii_5, T.ii_9, T.ip_3, T.ip_5, T.s8_22, T.s8_28, T.s8_3, T.s8_5, T.s8_9, T.sl_22, T.sl_28, T.sl_3, T.sl_5, T.sl_9, T.st_22, T.st_28, T.st_3, T.st_5, T.st_9, T.un_22, T.un_28, T.un_3, T.un_5, T.un_9, e, o1, c1, hb, k4, k3, k5]
  have hput : putS K V d s t L N Z ph l = ([UInt8.ofNat (192 + 16 * K + Z - 1)] ++ lowS V 4 ++ (UInt8.ofNat d.length :: d) ++ (UInt8.ofNat s.length :: s)) ++ (if K = 0 then vtextS t else []) ++ vputS L 2 ++ lowS N Z := by
    rw [putS, if_neg (by omega), if_neg (by omega), if_neg (by omega)]
    by_cases hk0 : K = 0
    · rw [if_pos hk0, if_pos (by omega)]; simp [nmS]
    · rw [if_neg hk0, if_neg (by omega)]; simp [nmS]
  generalize UInt8.ofNat (192 + 16 * K + Z - 1) = B at hput ⊢
  refine (names_ph _ (h.next + 1) _ [B] ⟨rfl, by simp [Heap.alloc], by rw [get_alloc, if_pos (by simp [Heap.alloc])]; rfl⟩ (by simp) K V d s t L N Z ph lst o1 c1 (by omega) hd hsl20).mono fun w h' ⟨j, ⟨hw, hj, hg⟩, hji, hK⟩ => ?_
  subst hw
  have hjn : h.next + 1 ≤ j := by simp [Heap.alloc] at hji; omega
  have hnl : ([B] ++ lowS V 4 ++ (UInt8.ofNat d.length :: d) ++ (UInt8.ofNat s.length :: s)).length ≤ 47 := by simp [lowS_len]; omega
  generalize ([B] ++ lowS V 4 ++ (UInt8.ofNat d.length :: d) ++ (UInt8.ofNat s.length :: s)) = nm at hg hput hnl ⊢
  have hbox : h'.get h.next = .live (.cells [.int .i64 K, .int .i64 V, .string (str d), .string (str s), .string (str t), .int .i64 L, .int .i64 N, .int .i64 Z, .bool ph, lst] .own) := by
    rw [hK.2 h.next (by simp [Heap.alloc]; omega) (by omega), get_alloc, if_neg (by simp [Heap.alloc]), get_alloc, if_pos rfl]
  have hkept : Kept h h' := ⟨by have := hK.1; simp [Heap.alloc] at this; omega, fun id hid => by
    rw [hK.2 id (by simp [Heap.alloc]; omega) (by omega), get_alloc, if_neg (by simp [Heap.alloc]; omega), get_alloc, if_neg (by omega)]⟩
  by_cases hk0 : K = 0
  · have k0 : ((K : Int) = 0) = True := eq_true (by omega)
    rw [if_pos hk0] at hput
    simp (config := { dsimp := false, maxSteps := 10000000 }) (disch := omega) only [go_sem, reduceIte, Nat.reduceEqDiff, reduceCtorEq, Nat.reduceAdd, Nat.reduceMul, Int.reduceToNat, Int.reduceLE, Int.reduceLT, Int.reduceEq, Int.reduceNe, Nat.reduceLeDiff, Int.reducePow, Nat.reducePow, Nat.reduceLT, Nat.reduceSub, Nat.reduceMod, Nat.reduceDiv, slot_neg, slot_pos, T.ag_22, T.ag_3, T.ag_31, T.ag_4, T.ag_9, T.eb_28, T.es_22, T.ez_28, T.fo_31_0, T.fo_31_2, T.fo_31_4, T.fo_31_5, T.fo_31_6, T.fo_31_7, T.fo_31_8, T.fo_31_9, T.gf_36, T.gf_37, T.gf_38, T.gf_39, T.gf_40, T.ib_3, T.ib_5, T.ii_22, T.ii_28, T.ii_3, T.ii_5, T.ii_9, T.ip_3, T.ip_5, T.s8_22, T.s8_28, T.s8_3, T.s8_5, T.s8_9, T.sl_22, T.sl_28, T.sl_3, T.sl_5, T.sl_9, T.st_22, T.st_28, T.st_3, T.st_5, T.st_9, T.un_22, T.un_28, T.un_3, T.un_5, T.un_9, hbox, k0]
    refine (VText_ph h' t (by omega)).mono fun w H ⟨vt, jt, hwt, ⟨hvt, hjt, hgt⟩, hjtn, hkt⟩ => ?_
    subst hwt
    subst hvt
    have hjtk : (jt = j) = False := eq_false (by omega)
    have hgj : H.get j = _ := (hkt.2 j hj).trans hg
    have hbox1 : H.get h.next = _ := (hkt.2 h.next (by have := hkept.1; omega)).trans hbox
    have hvz := vsz_ok t.length
    have hvt : (vtextS t).length ≤ 520 := by simp [vtextS, vputS_len]; rcases hvz with x | x | x | x <;> omega
    have hta : List.take nm.length (bc nm) = bc nm := List.take_of_length_le (by rw [bc_len]; exact Nat.le_refl _)
    have htb : List.take (vtextS t).length (bc (vtextS t)) = bc (vtextS t) := List.take_of_length_le (by rw [bc_len]; exact Nat.le_refl _)
    have hkn1 := hkt.1
    have hkn0 := hkept.1
    simp (config := { dsimp := false, maxSteps := 10000000 }) (disch := omega) only [go_sem, reduceIte, Nat.reduceEqDiff, reduceCtorEq, Nat.reduceAdd, Nat.reduceMul, Int.reduceToNat, Int.reduceLE, Int.reduceLT, Int.reduceEq, Int.reduceNe, Nat.reduceLeDiff, Int.reducePow, Nat.reducePow, Nat.reduceLT, Nat.reduceSub, Nat.reduceMod, Nat.reduceDiv, slot_neg, slot_pos, T.ag_22, T.ag_3, T.ag_31, T.ag_4, T.ag_9, T.eb_28, T.es_22, T.ez_28, T.fo_31_0, T.fo_31_2, T.fo_31_4, T.fo_31_5, T.fo_31_6, T.fo_31_7, T.fo_31_8, T.fo_31_9, T.gf_36, T.gf_37, T.gf_38, T.gf_39, T.gf_40, T.ib_3, T.ib_5, T.ii_22, T.ii_28, T.ii_3, T.ii_5, T.ii_9, T.ip_3, T.ip_5, T.s8_22, T.s8_28, T.s8_3, T.s8_5, T.s8_9, T.sl_22, T.sl_28, T.sl_3, T.sl_5, T.sl_9, T.st_22, T.st_28, T.st_3, T.st_5, T.st_9, T.un_22, T.un_28, T.un_3, T.un_5, T.un_9, hbox1, hgj, hgt, hta, htb, bc_len, bc_one, hjtk]
    refine ⟨⟨by omega, by omega⟩, ?_⟩
    obtain ⟨_, hA2, hA3⟩ := app_own H j nm (vtextS t)
    obtain ⟨acc, hacc⟩ : ∃ acc, acc = nm ++ vtextS t := ⟨_, rfl⟩
    have hle : nm.length + (vtextS t).length = acc.length := by rw [hacc, List.length_append]
    rw [← hacc] at hA3
    rw [← hacc] at hput
    have hkeptA : Kept h (appHeap H ⟨j, 0, none⟩ (bc nm ++ bc (vtextS t))) := ⟨by rw [next_app]; omega, fun id hid => by
      rw [get_app, if_neg (by omega), if_neg (by show ¬ id = j; omega), hkt.2 id (by omega), hkept.2 id hid]⟩
    have hboxA := (show (appHeap H ⟨j, 0, none⟩ (bc nm ++ bc (vtextS t))).get h.next = H.get h.next from by
      rw [get_app, if_neg (by omega), if_neg (by show ¬ h.next = j; omega)]).trans hbox1
    have hjA : H.next < (appHeap H ⟨j, 0, none⟩ (bc nm ++ bc (vtextS t))).next := hA2
    generalize appHeap H ⟨j, 0, none⟩ (bc nm ++ bc (vtextS t)) = H3 at hA3 hkeptA hboxA hjA ⊢
    clear hta htb
    refine (PutIn_ph H3 L 2 (.inr (.inl rfl)) (by rw [top2]; omega)).mono fun w H2 ⟨v2, j2, hw2, ⟨hv2, hj2, hg2⟩, hj2n, hk2⟩ => ?_
    subst hw2
    subst hv2
    have hbox2 : H2.get h.next = _ := (hk2.2 h.next (by have := hkeptA.1; omega)).trans hboxA
    have hga : H2.get (H.next) = _ := (hk2.2 (H.next) hjA).trans hA3
    have hvl := vputS_len L 2
    have hj2k : (j2 = H.next) = False := eq_false (by omega)
    have hkn := hk2.1
    have hkn9 := hkeptA.1
    have hjl9 := hjA
    simp (config := { dsimp := false, maxSteps := 10000000 }) (disch := omega) only [go_sem, reduceIte, Nat.reduceEqDiff, reduceCtorEq, Nat.reduceAdd, Nat.reduceMul, Int.reduceToNat, Int.reduceLE, Int.reduceLT, Int.reduceEq, Int.reduceNe, Nat.reduceLeDiff, Int.reducePow, Nat.reducePow, Nat.reduceLT, Nat.reduceSub, Nat.reduceMod, Nat.reduceDiv, slot_neg, slot_pos, T.ag_22, T.ag_3, T.ag_31, T.ag_4, T.ag_9, T.eb_28, T.es_22, T.ez_28, T.fo_31_0, T.fo_31_2, T.fo_31_4, T.fo_31_5, T.fo_31_6, T.fo_31_7, T.fo_31_8, T.fo_31_9, T.gf_36, T.gf_37, T.gf_38, T.gf_39, T.gf_40, T.ib_3, T.ib_5, T.ii_22, T.ii_28, T.ii_3, T.ii_5, T.ii_9, T.ip_3, T.ip_5, T.s8_22, T.s8_28, T.s8_3, T.s8_5, T.s8_9, T.sl_22, T.sl_28, T.sl_3, T.sl_5, T.sl_9, T.st_22, T.st_28, T.st_3, T.st_5, T.st_9, T.un_22, T.un_28, T.un_3, T.un_5, T.un_9, hbox2]
    refine draw_plan [H.next] (.take 0 (.take 1 (.take 3 (.take 4 (.take 5 (.take 6 (.alt 2 (.alt 7 (.take 8 (.take 9 .done)) .stop) .stop))))))) hm (by kernel_rfl) (by kernel_rfl) ?_
    have hta : List.take (acc).length (bc (acc)) = bc (acc) := List.take_of_length_le (by rw [bc_len]; exact Nat.le_refl _)
    have htb : List.take (vputS L 2).length (bc (vputS L 2)) = bc (vputS L 2) := List.take_of_length_le (by rw [bc_len]; exact Nat.le_refl _)
    simp (config := { dsimp := false, maxSteps := 10000000 }) (disch := omega) only [go_sem, reduceIte, Nat.reduceEqDiff, reduceCtorEq, Nat.reduceAdd, Nat.reduceMul, Int.reduceToNat, Int.reduceLE, Int.reduceLT, Int.reduceEq, Int.reduceNe, Nat.reduceLeDiff, Int.reducePow, Nat.reducePow, Nat.reduceLT, Nat.reduceSub, Nat.reduceMod, Nat.reduceDiv, slot_neg, slot_pos, T.ag_22, T.ag_3, T.ag_31, T.ag_4, T.ag_9, T.eb_28, T.es_22, T.ez_28, T.fo_31_0, T.fo_31_2, T.fo_31_4, T.fo_31_5, T.fo_31_6, T.fo_31_7, T.fo_31_8, T.fo_31_9, T.gf_36, T.gf_37, T.gf_38, T.gf_39, T.gf_40, T.ib_3, T.ib_5, T.ii_22, T.ii_28, T.ii_3, T.ii_5, T.ii_9, T.ip_3, T.ip_5, T.s8_22, T.s8_28, T.s8_3, T.s8_5, T.s8_9, T.sl_22, T.sl_28, T.sl_3, T.sl_5, T.sl_9, T.st_22, T.st_28, T.st_3, T.st_5, T.st_9, T.un_22, T.un_28, T.un_3, T.un_5, T.un_9, hbox2, hga, hg2, hta, htb, bc_len, bc_one, hj2k, hle]
    refine ⟨by omega, by omega, ⟨by omega, by omega⟩, (low_ph _ H2.next _ (acc ++ vputS L 2) N Z (app_own (H2.mask [H.next]) (H.next) (acc) (vputS L 2)) (by rw [List.length_append]; omega) (by omega) (by omega)).mono fun w h3 ⟨j3, ⟨hw3, hj3, hg3⟩, hji3, hK3'⟩ => ?_⟩
    have hji3' : H2.next ≤ j3 := by
      rcases hji3 with x | x
      · omega
      · have x : H2.next + 1 ≤ j3 := x
        omega
    have hn3 : H2.next ≤ h3.next := by omega
    simp (config := { dsimp := false, maxSteps := 10000000 }) (disch := omega) only [go_sem, reduceIte, Nat.reduceEqDiff, reduceCtorEq, Nat.reduceAdd, Nat.reduceMul, Int.reduceToNat, Int.reduceLE, Int.reduceLT, Int.reduceEq, Int.reduceNe, Nat.reduceLeDiff, Int.reducePow, Nat.reducePow, Nat.reduceLT, Nat.reduceSub, Nat.reduceMod, Nat.reduceDiv, slot_neg, slot_pos, T.ag_22, T.ag_3, T.ag_31, T.ag_4, T.ag_9, T.eb_28, T.es_22, T.ez_28, T.fo_31_0, T.fo_31_2, T.fo_31_4, T.fo_31_5, T.fo_31_6, T.fo_31_7, T.fo_31_8, T.fo_31_9, T.gf_36, T.gf_37, T.gf_38, T.gf_39, T.gf_40, T.ib_3, T.ib_5, T.ii_22, T.ii_28, T.ii_3, T.ii_5, T.ii_9, T.ip_3, T.ip_5, T.s8_22, T.s8_28, T.s8_3, T.s8_5, T.s8_9, T.sl_22, T.sl_28, T.sl_3, T.sl_5, T.sl_9, T.st_22, T.st_28, T.st_3, T.st_5, T.st_9, T.un_22, T.un_28, T.un_3, T.un_5, T.un_9]
    refine PutR.yes hr ⟨by rw [next_unmask]; omega, fun id hid => ?_⟩ rfl ⟨by rw [hw3, hput], by rw [next_unmask]; exact hj3, ?_⟩ (by omega)
    · rw [get_unmask, if_pos ⟨by omega, by simp; omega⟩, hk2.2 id (by omega), hkeptA.2 id hid]
    · rw [get_unmask, if_neg (by omega), hg3, hput]
  · have k0 : ((K : Int) = 0) = False := eq_false (by omega)
    rw [if_neg hk0, List.append_nil] at hput
    simp (config := { dsimp := false, maxSteps := 10000000 }) (disch := omega) only [go_sem, reduceIte, Nat.reduceEqDiff, reduceCtorEq, Nat.reduceAdd, Nat.reduceMul, Int.reduceToNat, Int.reduceLE, Int.reduceLT, Int.reduceEq, Int.reduceNe, Nat.reduceLeDiff, Int.reducePow, Nat.reducePow, Nat.reduceLT, Nat.reduceSub, Nat.reduceMod, Nat.reduceDiv, slot_neg, slot_pos, T.ag_22, T.ag_3, T.ag_31, T.ag_4, T.ag_9, T.eb_28, T.es_22, T.ez_28, T.fo_31_0, T.fo_31_2, T.fo_31_4, T.fo_31_5, T.fo_31_6, T.fo_31_7, T.fo_31_8, T.fo_31_9, T.gf_36, T.gf_37, T.gf_38, T.gf_39, T.gf_40, T.ib_3, T.ib_5, T.ii_22, T.ii_28, T.ii_3, T.ii_5, T.ii_9, T.ip_3, T.ip_5, T.s8_22, T.s8_28, T.s8_3, T.s8_5, T.s8_9, T.sl_22, T.sl_28, T.sl_3, T.sl_5, T.sl_9, T.st_22, T.st_28, T.st_3, T.st_5, T.st_9, T.un_22, T.un_28, T.un_3, T.un_5, T.un_9, hbox, k0]
    refine (PutIn_ph h' L 2 (.inr (.inl rfl)) (by rw [top2]; omega)).mono fun w H2 ⟨v2, j2, hw2, ⟨hv2, hj2, hg2⟩, hj2n, hk2⟩ => ?_
    subst hw2
    subst hv2
    have hbox2 : H2.get h.next = _ := (hk2.2 h.next (by have := hkept.1; omega)).trans hbox
    have hga : H2.get (j) = _ := (hk2.2 (j) hj).trans hg
    have hvl := vputS_len L 2
    have hj2k : (j2 = j) = False := eq_false (by omega)
    have hkn := hk2.1
    have hkn9 := hkept.1
    have hjl9 := hj
    simp (config := { dsimp := false, maxSteps := 10000000 }) (disch := omega) only [go_sem, reduceIte, Nat.reduceEqDiff, reduceCtorEq, Nat.reduceAdd, Nat.reduceMul, Int.reduceToNat, Int.reduceLE, Int.reduceLT, Int.reduceEq, Int.reduceNe, Nat.reduceLeDiff, Int.reducePow, Nat.reducePow, Nat.reduceLT, Nat.reduceSub, Nat.reduceMod, Nat.reduceDiv, slot_neg, slot_pos, T.ag_22, T.ag_3, T.ag_31, T.ag_4, T.ag_9, T.eb_28, T.es_22, T.ez_28, T.fo_31_0, T.fo_31_2, T.fo_31_4, T.fo_31_5, T.fo_31_6, T.fo_31_7, T.fo_31_8, T.fo_31_9, T.gf_36, T.gf_37, T.gf_38, T.gf_39, T.gf_40, T.ib_3, T.ib_5, T.ii_22, T.ii_28, T.ii_3, T.ii_5, T.ii_9, T.ip_3, T.ip_5, T.s8_22, T.s8_28, T.s8_3, T.s8_5, T.s8_9, T.sl_22, T.sl_28, T.sl_3, T.sl_5, T.sl_9, T.st_22, T.st_28, T.st_3, T.st_5, T.st_9, T.un_22, T.un_28, T.un_3, T.un_5, T.un_9, hbox2]
    refine draw_plan [j] (.take 0 (.take 1 (.take 3 (.take 4 (.take 5 (.take 6 (.alt 2 (.alt 7 (.take 8 (.take 9 .done)) .stop) .stop))))))) hm (by kernel_rfl) (by kernel_rfl) ?_
    have hta : List.take (nm).length (bc (nm)) = bc (nm) := List.take_of_length_le (by rw [bc_len]; exact Nat.le_refl _)
    have htb : List.take (vputS L 2).length (bc (vputS L 2)) = bc (vputS L 2) := List.take_of_length_le (by rw [bc_len]; exact Nat.le_refl _)
    simp (config := { dsimp := false, maxSteps := 10000000 }) (disch := omega) only [go_sem, reduceIte, Nat.reduceEqDiff, reduceCtorEq, Nat.reduceAdd, Nat.reduceMul, Int.reduceToNat, Int.reduceLE, Int.reduceLT, Int.reduceEq, Int.reduceNe, Nat.reduceLeDiff, Int.reducePow, Nat.reducePow, Nat.reduceLT, Nat.reduceSub, Nat.reduceMod, Nat.reduceDiv, slot_neg, slot_pos, T.ag_22, T.ag_3, T.ag_31, T.ag_4, T.ag_9, T.eb_28, T.es_22, T.ez_28, T.fo_31_0, T.fo_31_2, T.fo_31_4, T.fo_31_5, T.fo_31_6, T.fo_31_7, T.fo_31_8, T.fo_31_9, T.gf_36, T.gf_37, T.gf_38, T.gf_39, T.gf_40, T.ib_3, T.ib_5, T.ii_22, T.ii_28, T.ii_3, T.ii_5, T.ii_9, T.ip_3, T.ip_5, T.s8_22, T.s8_28, T.s8_3, T.s8_5, T.s8_9, T.sl_22, T.sl_28, T.sl_3, T.sl_5, T.sl_9, T.st_22, T.st_28, T.st_3, T.st_5, T.st_9, T.un_22, T.un_28, T.un_3, T.un_5, T.un_9, hbox2, hga, hg2, hta, htb, bc_len, bc_one, hj2k]
    refine ⟨by omega, by omega, ⟨by omega, by omega⟩, (low_ph _ H2.next _ (nm ++ vputS L 2) N Z (app_own (H2.mask [j]) (j) (nm) (vputS L 2)) (by rw [List.length_append]; omega) (by omega) (by omega)).mono fun w h3 ⟨j3, ⟨hw3, hj3, hg3⟩, hji3, hK3'⟩ => ?_⟩
    have hji3' : H2.next ≤ j3 := by
      rcases hji3 with x | x
      · omega
      · have x : H2.next + 1 ≤ j3 := x
        omega
    have hn3 : H2.next ≤ h3.next := by omega
    simp (config := { dsimp := false, maxSteps := 10000000 }) (disch := omega) only [go_sem, reduceIte, Nat.reduceEqDiff, reduceCtorEq, Nat.reduceAdd, Nat.reduceMul, Int.reduceToNat, Int.reduceLE, Int.reduceLT, Int.reduceEq, Int.reduceNe, Nat.reduceLeDiff, Int.reducePow, Nat.reducePow, Nat.reduceLT, Nat.reduceSub, Nat.reduceMod, Nat.reduceDiv, slot_neg, slot_pos, T.ag_22, T.ag_3, T.ag_31, T.ag_4, T.ag_9, T.eb_28, T.es_22, T.ez_28, T.fo_31_0, T.fo_31_2, T.fo_31_4, T.fo_31_5, T.fo_31_6, T.fo_31_7, T.fo_31_8, T.fo_31_9, T.gf_36, T.gf_37, T.gf_38, T.gf_39, T.gf_40, T.ib_3, T.ib_5, T.ii_22, T.ii_28, T.ii_3, T.ii_5, T.ii_9, T.ip_3, T.ip_5, T.s8_22, T.s8_28, T.s8_3, T.s8_5, T.s8_9, T.sl_22, T.sl_28, T.sl_3, T.sl_5, T.sl_9, T.st_22, T.st_28, T.st_3, T.st_5, T.st_9, T.un_22, T.un_28, T.un_3, T.un_5, T.un_9]
    refine PutR.yes hr ⟨by rw [next_unmask]; omega, fun id hid => ?_⟩ rfl ⟨by rw [hw3, hput], by rw [next_unmask]; exact hj3, ?_⟩ (by omega)
    · rw [get_unmask, if_pos ⟨by omega, by simp; omega⟩, hk2.2 id (by omega), hkept.2 id hid]
    · rw [get_unmask, if_neg (by omega), hg3, hput]
end Ph
