import Derived.Test.YthagjeomcgphiaaDoorN20
set_option maxRecDepth 100000
set_option maxHeartbeats 4000000
set_option linter.unusedSimpArgs false
set_option linter.unusedVariables false
namespace Ph
open Go Go.Proofs
attribute [local irreducible] Value.cells
attribute [local go_sem ↓] s_move s_assign s_pick s_nil s_bin s_un s_fa s_field s_ext s_ia s_ix s_slice s_conv s_build s_bs s_mf s_alloc s_box s_load s_store s_len s_min s_max s_app s_call q_call q_move q_assign q_pick q_nil q_bin q_un q_fa q_field q_ext q_ia q_ix q_slice q_conv q_build q_mf q_load q_len q_min q_max l_nil l_move l_assign l_pick l_nilc l_bin l_un l_fa l_field l_ext l_ia l_ix l_slice l_conv l_build l_mf l_load l_len l_min l_max l_call put_eq putN_eq o_nil o_plain o_gate v_nil v_plain v_gate vc_skip vc_region vc_seq vc_cond vc_block vc_loop vc_exit vc_ret blk_normal blk_ret blk_exit on_normal on_ret on_exit vc_drawn draw_q s_mk l_bs l_mk l_alloc l_box l_store l_app pl_done pl_take pl_alt pl_stop one_plain one_gate
attribute [local go_sem] onAgg_a onTuple_t onFunc_f c_int c_nil c_sl c_str sl_sl sl_nil sl_str ix_str ix_agg n_nil n_sl n_str app_eq k_nil k_sl len_sl len_str upd_some upd_none ev_tmp ev_const ev_func rd_some gdst_eq otmp_t otmp_c get_put get_alloc next_put next_alloc get_app next_app init_a resV1 resV2 onPtr_ptr onBool_b onInt_i onSlice_s onSome_s onCells_c lett_eq gate_tt gate_tf gate_ff gate_ft gate_dt gate_df also_eq bin un minmax io_none io_some bo_none bo_some partOf List.getElem?_cons_zero List.getElem?_cons_succ List.getElem?_toArray Option.map_some Option.map_none Option.bind_some ne_eq not_true_eq_false not_false_eq_true false_implies true_implies and_true true_and and_self Bool.false_eq_true Nat.zero_add Nat.add_zero List.size_toArray List.length_cons List.length_nil List.map_toArray List.map_cons List.map_nil Array.getD_eq_getD_getElem? Option.getD_some Bool.not_true Bool.not_false Bool.not_eq_true Option.isNone_some Option.isNone_none List.append_toArray List.append_nil List.nil_append List.cons_append decide_true decide_false in_nil in_cons Bool.and_false Bool.and_true Bool.or_false Bool.true_or Bool.false_or get_mask next_mask get_unmask next_unmask ac_move ac_assign ac_pick ac_nil ac_bin ac_un ac_fa ac_field ac_ext ac_ia ac_ix ac_slice ac_build ac_mf ac_call ac_load ac_conv accP_p accS_s accS_n accS_i accS_t fixed_ro fixed_lock fixed_own get_ro next_ro lock_live' lock_cells List.mem_cons List.not_mem_nil or_false false_or or_true true_or and_false false_and IntKind.bits Int.natCast_zero Int.natCast_one size_str data_str list_str mk_str ext_str app_str bytes_str w_byte w_byteu Int.toNat_natCast Int.toNat_zero Int.toNat_one Nat.sub_zero ge_iff_le gt_iff_lt Nat.le_refl Int.le_refl List.drop_zero Int.ofNat_eq_natCast Int.natCast_nonneg Int.sub_zero oc_int oc_bool oc_str oc_ptr oc_sl oc_map oc_func List.set_cons_zero List.set_cons_succ Nat.mul_one List.all_cons List.all_nil Bool.and_self res_nil res_tmp res_cell tup_one tup_two tup_nil fill_nil repl_zero cells_agg List.append_eq List.toList_toArray Nat.zero_mul Nat.one_mul repl_one repl_two onSome_build fill_cons onSome_lit splice_eq cells_int cells_bool cells_str cells_ptr cells_sl cells_map cells_func loadK_n loadK_s load_k storeK_n storeK_s store_k all_arr List.take_zero List.take_succ_cons List.drop_succ_cons List.take_nil List.drop_nil lk_own lk_ro lk_lock lk_lk fixed_lk gate_nt gate_nf gate3_b gate3_u undef Bool.true_and Bool.false_and nx_l nx_r nx_lt
def isW (n : Int) : Bool := decide (0 ≤ n) && decide (n ≤ 4294967295)
theorem isWord_ph (n : Int) (h : Heap) : @CallsH Tryd.prog 54 #[.int .i64 n] h ⟨fun v _ => v = .bool (isW n)⟩ := by
  (refine calls_of_vc [] hm Tryd.func54 rfl (ts := [2]) rfl (by kernel_rfl) (by simp) ?_; simp (config := { dsimp := false }) only [go_sem, reduceIte, Nat.reduceEqDiff, reduceCtorEq, Nat.reduceAdd, Nat.reduceMul, Int.reduceToNat, Int.reduceLE, Int.reduceLT, Int.reduceEq, Int.reduceNe, Nat.reduceLeDiff, Int.reducePow, Nat.reducePow, Nat.reduceLT, Nat.reduceSub, Nat.reduceMod, Nat.reduceDiv, T.gf_41, init_a])
  exact CallsH.pure _ rfl (within_ph n 0 4294967295 _) (by simp (config := { dsimp := false }) only [go_sem, reduceIte, Nat.reduceEqDiff, reduceCtorEq, Nat.reduceAdd, Nat.reduceMul, Int.reduceToNat, Int.reduceLE, Int.reduceLT, Int.reduceEq, Int.reduceNe, Nat.reduceLeDiff, Int.reducePow, Nat.reducePow, Nat.reduceLT, Nat.reduceSub, Nat.reduceMod, Nat.reduceDiv, T.gf_41]; rfl)
theorem notWord_ph (n : Int) (h : Heap) : @CallsH Tryd.prog 56 #[.int .i64 n] h ⟨fun v _ => v = .bool (!isW n)⟩ := by
  (refine calls_of_vc [] hm Tryd.func56 rfl (ts := [2]) rfl (by kernel_rfl) (by simp) ?_; simp (config := { dsimp := false }) only [go_sem, reduceIte, Nat.reduceEqDiff, reduceCtorEq, Nat.reduceAdd, Nat.reduceMul, Int.reduceToNat, Int.reduceLE, Int.reduceLT, Int.reduceEq, Int.reduceNe, Nat.reduceLeDiff, Int.reducePow, Nat.reducePow, Nat.reduceLT, Nat.reduceSub, Nat.reduceMod, Nat.reduceDiv, T.gf_54, init_a])
  exact CallsH.pure _ rfl (isWord_ph n _) (by simp (config := { dsimp := false }) only [go_sem, reduceIte, Nat.reduceEqDiff, reduceCtorEq, Nat.reduceAdd, Nat.reduceMul, Int.reduceToNat, Int.reduceLE, Int.reduceLT, Int.reduceEq, Int.reduceNe, Nat.reduceLeDiff, Int.reducePow, Nat.reducePow, Nat.reduceLT, Nat.reduceSub, Nat.reduceMod, Nat.reduceDiv, T.gf_54])
def idxW : List Int → Int
  | [] => -1
  | x :: t => if isW x = false then 0 else if idxW t = -1 then -1 else idxW t + 1
theorem IndexFunc_ph (h : Heap) (u : Value) (a : List Int) (ha : SlX h u a) (hla : a.length < 9223372036854775807) :
    @CallsH Tryd.prog 75 #[u, .func (.func 56) #[] #[]] h ⟨fun w _ => ∃ n, w = .int .i64 n ∧ (decide (0 ≤ n)) = a.any (!isW ·)⟩ := by
  rcases ha with ⟨rfl, rfl⟩ | ⟨p, o, vs, q, rfl, hp, hrow, hlen⟩
  · (refine calls_of_vc [] hm Tryd.func75 rfl (ts := [4]) rfl (by kernel_rfl) (by simp) ?_; simp (config := { dsimp := false }) only [go_sem, reduceIte, Nat.reduceEqDiff, reduceCtorEq, Nat.reduceAdd, Nat.reduceMul, Int.reduceToNat, Int.reduceLE, Int.reduceLT, Int.reduceEq, Int.reduceNe, Nat.reduceLeDiff, Int.reducePow, Nat.reducePow, Nat.reduceLT, Nat.reduceSub, Nat.reduceMod, Nat.reduceDiv, T.ag_3, T.es_22, T.ib_3, T.ii_22, T.ip_3, T.s8_22, T.sl_22, T.st_22, T.un_22, init_a])
    refine loop_intro [] hm (fun r h' => r 7 = .int .i64 0 ∧ r 8 = .int .i64 0) (fun r _ => (0 : Nat)) ?_ ?_
    · exact ⟨by simp [upd, initR], by simp [upd]⟩
    · rintro r h ⟨h0, h1⟩
      simp (config := { dsimp := false }) only [go_sem, reduceIte, Nat.reduceEqDiff, reduceCtorEq, Nat.reduceAdd, Nat.reduceMul, Int.reduceToNat, Int.reduceLE, Int.reduceLT, Int.reduceEq, Int.reduceNe, Nat.reduceLeDiff, Int.reducePow, Nat.reducePow, Nat.reduceLT, Nat.reduceSub, Nat.reduceMod, Nat.reduceDiv, T.ag_3, T.es_22, T.ib_3, T.ii_22, T.ip_3, T.s8_22, T.sl_22, T.st_22, T.un_22, h0, h1]
      exact ⟨-1, rfl, rfl⟩
  · (refine calls_of_vc [] hm Tryd.func75 rfl (ts := [4]) rfl (by kernel_rfl) (by simp) ?_; simp (config := { dsimp := false }) only [go_sem, reduceIte, Nat.reduceEqDiff, reduceCtorEq, Nat.reduceAdd, Nat.reduceMul, Int.reduceToNat, Int.reduceLE, Int.reduceLT, Int.reduceEq, Int.reduceNe, Nat.reduceLeDiff, Int.reducePow, Nat.reducePow, Nat.reduceLT, Nat.reduceSub, Nat.reduceMod, Nat.reduceDiv, T.ag_3, T.es_22, T.ib_3, T.ii_22, T.ip_3, T.s8_22, T.sl_22, T.st_22, T.un_22, init_a])
    refine loop_intro [] hm (fun r h' => h' = h ∧ ∃ i, i ≤ a.length ∧ r 0 = .slice (some ⟨p, o, none⟩) a.length 1 ∧ r 1 = .func (.func 56) #[] #[] ∧ r 7 = .int .i64 a.length ∧ r 8 = .int .i64 i ∧ (a.take i).any (!isW ·) = false) (fun r _ => match r 8 with | .int _ i => a.length - i.toNat | _ => 0) ?_ ?_
    · exact ⟨rfl, 0, by omega, by simp [upd, initR], by simp [upd, initR], by simp [upd], by simp [upd], by simp⟩
    · rintro r _ ⟨rfl, i, h0, h1, h2, h3, h4, h5⟩
      by_cases hi : i < a.length
      · have e := i64wrap (x := (i : Int) + 1) (by omega) (by omega)
        have g1 := SlX.get hrow hi
        have hi' : ((i : Int) < (a.length : Int)) = True := eq_true (by omega)
        simp (config := { dsimp := false }) only [go_sem, reduceIte, Nat.reduceEqDiff, reduceCtorEq, Nat.reduceAdd, Nat.reduceMul, Int.reduceToNat, Int.reduceLE, Int.reduceLT, Int.reduceEq, Int.reduceNe, Nat.reduceLeDiff, Int.reducePow, Nat.reducePow, Nat.reduceLT, Nat.reduceSub, Nat.reduceMod, Nat.reduceDiv, T.ag_3, T.es_22, T.ib_3, T.ii_22, T.ip_3, T.s8_22, T.sl_22, T.st_22, T.un_22, h1, h2, h3, h4, hp, g1, hi', e, T.gf_56]
        refine CallsH.pure _ rfl (notWord_ph _ _) ?_
        cases hw : isW (a.getD i 0)
        · simp (config := { dsimp := false }) only [go_sem, reduceIte, Nat.reduceEqDiff, reduceCtorEq, Nat.reduceAdd, Nat.reduceMul, Int.reduceToNat, Int.reduceLE, Int.reduceLT, Int.reduceEq, Int.reduceNe, Nat.reduceLeDiff, Int.reducePow, Nat.reducePow, Nat.reduceLT, Nat.reduceSub, Nat.reduceMod, Nat.reduceDiv, T.ag_3, T.es_22, T.ib_3, T.ii_22, T.ip_3, T.s8_22, T.sl_22, T.st_22, T.un_22, h1, h2, h3, h4]
          refine ⟨i, rfl, ?_⟩
          have : a.any (!isW ·) = true := by
            rw [List.any_eq_true]; refine ⟨a[i], List.getElem_mem hi, ?_⟩
            simp only [List.getD_eq_getElem?_getD, List.getElem?_eq_getElem hi, Option.getD_some] at hw
            simp [hw]
          rw [this]; simp
        · simp (config := { dsimp := false }) only [go_sem, reduceIte, Nat.reduceEqDiff, reduceCtorEq, Nat.reduceAdd, Nat.reduceMul, Int.reduceToNat, Int.reduceLE, Int.reduceLT, Int.reduceEq, Int.reduceNe, Nat.reduceLeDiff, Int.reducePow, Nat.reducePow, Nat.reduceLT, Nat.reduceSub, Nat.reduceMod, Nat.reduceDiv, T.ag_3, T.es_22, T.ib_3, T.ii_22, T.ip_3, T.s8_22, T.sl_22, T.st_22, T.un_22, h1, h2, h3, h4, e]
          exact ⟨⟨i + 1, by omega, rfl, by rw [take_stepI hi, List.any_append, h5, List.any_cons, hw]; rfl⟩, by omega⟩
      · have hi' : ((i : Int) < (a.length : Int)) = False := eq_false (by omega)
        simp (config := { dsimp := false }) only [go_sem, reduceIte, Nat.reduceEqDiff, reduceCtorEq, Nat.reduceAdd, Nat.reduceMul, Int.reduceToNat, Int.reduceLE, Int.reduceLT, Int.reduceEq, Int.reduceNe, Nat.reduceLeDiff, Int.reducePow, Nat.reducePow, Nat.reduceLT, Nat.reduceSub, Nat.reduceMod, Nat.reduceDiv, T.ag_3, T.es_22, T.ib_3, T.ii_22, T.ip_3, T.s8_22, T.sl_22, T.st_22, T.un_22, h1, h2, h3, h4, hi']
        rw [List.take_of_length_le (by omega)] at h5
        exact ⟨-1, rfl, by rw [h5]; rfl⟩
theorem ContainsFunc_ph (h : Heap) (u : Value) (a : List Int) (ha : SlX h u a) (hla : a.length < 9223372036854775807) :
    @CallsH Tryd.prog 55 #[u, .func (.func 56) #[] #[]] h ⟨fun w _ => w = .bool (a.any (!isW ·))⟩ := by
  (refine calls_of_vc [] hm Tryd.func55 rfl (ts := [4]) rfl (by kernel_rfl) (by simp) ?_; simp (config := { dsimp := false }) only [go_sem, reduceIte, Nat.reduceEqDiff, reduceCtorEq, Nat.reduceAdd, Nat.reduceMul, Int.reduceToNat, Int.reduceLE, Int.reduceLT, Int.reduceEq, Int.reduceNe, Nat.reduceLeDiff, Int.reducePow, Nat.reducePow, Nat.reduceLT, Nat.reduceSub, Nat.reduceMod, Nat.reduceDiv, T.gf_75, T.ib_3, T.ip_3, init_a])
  refine (IndexFunc_ph h u a ha hla).mono fun w h' ⟨n, hw, hn⟩ => ?_
  subst hw
  simp (config := { dsimp := false }) only [go_sem, reduceIte, Nat.reduceEqDiff, reduceCtorEq, Nat.reduceAdd, Nat.reduceMul, Int.reduceToNat, Int.reduceLE, Int.reduceLT, Int.reduceEq, Int.reduceNe, Nat.reduceLeDiff, Int.reducePow, Nat.reducePow, Nat.reduceLT, Nat.reduceSub, Nat.reduceMod, Nat.reduceDiv, T.gf_75, T.ib_3, T.ip_3, hn]
theorem SlX.ro {h : Heap} {v l} (hs : SlX h v l) : SlX h.ro v l := by
  rcases hs with hs | ⟨i, o, vs, q, h1, h2, h3, h4⟩
  · exact .inl hs
  · exact .inr ⟨i, o, vs, _, h1, by rw [get_ro, h2, lock_live', lock_cells], h3, h4⟩
/-- a header in form: what the first question asks -/
def okH (v : Int) (d s t : List UInt8) (len num : Int) (l : List Int) : Prop :=
  d.length ≤ 20 ∧ s.length ≤ 20 ∧ t.length ≤ 512 ∧ isW v = true ∧ (0 ≤ len ∧ len ≤ 16383) ∧ (0 ≤ num ∧ num ≤ 4611686018427387903) ∧ l.length ≤ 16 ∧ l.any (!isW ·) = false
instance (v d s t len num l) : Decidable (okH v d s t len num l) := by unfold okH; infer_instance
def rightP (k v : Int) (d s t : List UInt8) (len num sz : Int) (ph : Bool) (l : List Int) : Prop :=
  okH v d s t len num l ∧
  (((k = 0 ∨ k = 1 ∨ k = 2) ∧ l = [] ∧ (1 ≤ sz ∧ sz ≤ 4) ∧ v ≠ 0 ∧ ph = false ∧ (k = 0 ∨ t = [])) ∨
   (k = 3 ∧ l = [] ∧ (len = 0 ∧ num = 0 ∧ sz = 0 ∧ ph = false) ∧ v ≠ 0) ∨
   (k = 4 ∧ l = [] ∧ (1 ≤ sz ∧ sz ≤ 4) ∧ v = 0 ∧ len = 0 ∧ s = [] ∧ t = []) ∨
   (k = 5 ∧ l ≠ [] ∧ (len = 0 ∧ num = 0 ∧ sz = 0 ∧ ph = false) ∧ v = 0 ∧ t = []))
instance (k v d s t len num sz ph l) : Decidable (rightP k v d s t len num sz ph l) := by unfold rightP; infer_instance
theorem right_ph (h : Heap) (k v : Int) (d s t : List UInt8) (len num sz : Int) (ph : Bool) (lst : Value) (l : List Int) (hs : SlX h lst l) (hlt : ∀ a n m, lst = .slice (some a) n m → a.block < h.next) (hll : l.length < 9223372036854775807) :
    @CallsH Tryd.prog 36 #[.agg (hdv k v d s t len num sz ph lst).toArray] h ⟨fun w _ => w = .bool (decide (rightP k v d s t len num sz ph l))⟩ := by
  have o1 := hs.one
  have c1 := hs.cells
  have hln : ∀ H : Heap, True := fun _ => trivial
  have hsl : ∃ A n m, lst = .slice A n m ∧ n = l.length := by
    rcases hs with ⟨rfl, rfl⟩ | ⟨_, _, _, _, rfl, _⟩
    · exact ⟨_, _, _, rfl, rfl⟩
    · exact ⟨_, _, _, rfl, rfl⟩
  obtain ⟨A, n, m, rfl, rfl⟩ := hsl
  unfold hdv
  refine calls_of_codeR (rs := [.tmp 2]) Tryd.func36 rfl rfl (by simp) ?_
  refine CodeH.cut2 [] hm (fun r H => okH v d s t len num l ∧ r 1 = .pointer (some ⟨h.next, 0, none⟩) ∧ H = h.alloc (.cells (hdv k v d s t len num sz ph (.slice A l.length m)) .own)) (by kernel_rfl) ?_ ?_
  · have no : ¬ okH v d s t len num l → Value.bool false = Value.bool (decide (rightP k v d s t len num sz ph l)) := fun x => by
      have : ¬ rightP k v d s t len num sz ph l := fun y => x y.1
      simp [this]
    have hsl : SlX (h.alloc (.cells [.int .i64 k, .int .i64 v, .string (str d), .string (str s), .string (str t), .int .i64 len, .int .i64 num, .int .i64 sz, .bool ph, .slice A l.length m] .own)) (.slice A l.length m) l := hs.kept (Kept.alloc _ _) hlt
    simp (config := { dsimp := false }) only [go_sem, reduceIte, Nat.reduceEqDiff, reduceCtorEq, Nat.reduceAdd, Nat.reduceMul, Int.reduceToNat, Int.reduceLE, Int.reduceLT, Int.reduceEq, Int.reduceNe, Nat.reduceLeDiff, Int.reducePow, Nat.reducePow, Nat.reduceLT, Nat.reduceSub, Nat.reduceMod, Nat.reduceDiv, T.ag_22, T.ag_3, T.ag_4, T.ag_9, T.fo_31_0, T.fo_31_1, T.fo_31_2, T.fo_31_3, T.fo_31_4, T.fo_31_5, T.fo_31_6, T.fo_31_7, T.fo_31_8, T.fo_31_9, T.gf_41, T.gf_54, T.gf_55, T.gf_56, T.ib_3, T.ib_9, T.ii_22, T.ii_9, T.ip_3, T.ip_9, T.s8_22, T.s8_9, T.sl_22, T.sl_9, T.st_22, T.st_9, T.un_22, T.un_9, init_a, o1, c1]
    refine ⟨fun a1 => ⟨fun a2 => ⟨fun a3 => CallsH.pure _ rfl (isWord_ph v _) ?_, fun x => no fun y => ?_⟩, fun x => no fun y => ?_⟩, fun x => no fun y => ?_⟩
    · cases hw : isW v
      · simp (config := { dsimp := false }) only [go_sem, reduceIte, Nat.reduceEqDiff, reduceCtorEq, Nat.reduceAdd, Nat.reduceMul, Int.reduceToNat, Int.reduceLE, Int.reduceLT, Int.reduceEq, Int.reduceNe, Nat.reduceLeDiff, Int.reducePow, Nat.reducePow, Nat.reduceLT, Nat.reduceSub, Nat.reduceMod, Nat.reduceDiv, T.ag_22, T.ag_3, T.ag_4, T.ag_9, T.fo_31_0, T.fo_31_1, T.fo_31_2, T.fo_31_3, T.fo_31_4, T.fo_31_5, T.fo_31_6, T.fo_31_7, T.fo_31_8, T.fo_31_9, T.gf_41, T.gf_54, T.gf_55, T.gf_56, T.ib_3, T.ib_9, T.ii_22, T.ii_9, T.ip_3, T.ip_9, T.s8_22, T.s8_9, T.sl_22, T.sl_9, T.st_22, T.st_9, T.un_22, T.un_9]
        exact no fun y => by have := y.2.2.2.1; rw [hw] at this; cases this
      · simp (config := { dsimp := false }) only [go_sem, reduceIte, Nat.reduceEqDiff, reduceCtorEq, Nat.reduceAdd, Nat.reduceMul, Int.reduceToNat, Int.reduceLE, Int.reduceLT, Int.reduceEq, Int.reduceNe, Nat.reduceLeDiff, Int.reducePow, Nat.reducePow, Nat.reduceLT, Nat.reduceSub, Nat.reduceMod, Nat.reduceDiv, T.ag_22, T.ag_3, T.ag_4, T.ag_9, T.fo_31_0, T.fo_31_1, T.fo_31_2, T.fo_31_3, T.fo_31_4, T.fo_31_5, T.fo_31_6, T.fo_31_7, T.fo_31_8, T.fo_31_9, T.gf_41, T.gf_54, T.gf_55, T.gf_56, T.ib_3, T.ib_9, T.ii_22, T.ii_9, T.ip_3, T.ip_9, T.s8_22, T.s8_9, T.sl_22, T.sl_9, T.st_22, T.st_9, T.un_22, T.un_9]
        refine CallsH.pure _ rfl (within_ph len 0 16383 _) ?_
        by_cases b1 : 0 ≤ len ∧ len ≤ 16383
        · have hd : (decide (0 ≤ len) && decide (len ≤ 16383)) = true := by simp [b1.1, b1.2]
          simp (config := { dsimp := false }) only [go_sem, reduceIte, Nat.reduceEqDiff, reduceCtorEq, Nat.reduceAdd, Nat.reduceMul, Int.reduceToNat, Int.reduceLE, Int.reduceLT, Int.reduceEq, Int.reduceNe, Nat.reduceLeDiff, Int.reducePow, Nat.reducePow, Nat.reduceLT, Nat.reduceSub, Nat.reduceMod, Nat.reduceDiv, T.ag_22, T.ag_3, T.ag_4, T.ag_9, T.fo_31_0, T.fo_31_1, T.fo_31_2, T.fo_31_3, T.fo_31_4, T.fo_31_5, T.fo_31_6, T.fo_31_7, T.fo_31_8, T.fo_31_9, T.gf_41, T.gf_54, T.gf_55, T.gf_56, T.ib_3, T.ib_9, T.ii_22, T.ii_9, T.ip_3, T.ip_9, T.s8_22, T.s8_9, T.sl_22, T.sl_9, T.st_22, T.st_9, T.un_22, T.un_9, hd]
          refine CallsH.pure _ rfl (within_ph num 0 4611686018427387903 _) ?_
          by_cases b2 : 0 ≤ num ∧ num ≤ 4611686018427387903
          · have hd : (decide (0 ≤ num) && decide (num ≤ 4611686018427387903)) = true := by simp [b2.1, b2.2]
            simp (config := { dsimp := false }) only [go_sem, reduceIte, Nat.reduceEqDiff, reduceCtorEq, Nat.reduceAdd, Nat.reduceMul, Int.reduceToNat, Int.reduceLE, Int.reduceLT, Int.reduceEq, Int.reduceNe, Nat.reduceLeDiff, Int.reducePow, Nat.reducePow, Nat.reduceLT, Nat.reduceSub, Nat.reduceMod, Nat.reduceDiv, T.ag_22, T.ag_3, T.ag_4, T.ag_9, T.fo_31_0, T.fo_31_1, T.fo_31_2, T.fo_31_3, T.fo_31_4, T.fo_31_5, T.fo_31_6, T.fo_31_7, T.fo_31_8, T.fo_31_9, T.gf_41, T.gf_54, T.gf_55, T.gf_56, T.ib_3, T.ib_9, T.ii_22, T.ii_9, T.ip_3, T.ip_9, T.s8_22, T.s8_9, T.sl_22, T.sl_9, T.st_22, T.st_9, T.un_22, T.un_9, hd]
            refine ⟨fun a4 => CallsH.pure _ rfl (ContainsFunc_ph _ _ l hsl.ro hll) ?_, fun x => no fun y => by have := y.2.2.2.2.2.2.1; omega⟩
            cases hx : l.any (!isW ·)
            · simp (config := { dsimp := false }) only [go_sem, reduceIte, Nat.reduceEqDiff, reduceCtorEq, Nat.reduceAdd, Nat.reduceMul, Int.reduceToNat, Int.reduceLE, Int.reduceLT, Int.reduceEq, Int.reduceNe, Nat.reduceLeDiff, Int.reducePow, Nat.reducePow, Nat.reduceLT, Nat.reduceSub, Nat.reduceMod, Nat.reduceDiv, T.ag_22, T.ag_3, T.ag_4, T.ag_9, T.fo_31_0, T.fo_31_1, T.fo_31_2, T.fo_31_3, T.fo_31_4, T.fo_31_5, T.fo_31_6, T.fo_31_7, T.fo_31_8, T.fo_31_9, T.gf_41, T.gf_54, T.gf_55, T.gf_56, T.ib_3, T.ib_9, T.ii_22, T.ii_9, T.ip_3, T.ip_9, T.s8_22, T.s8_9, T.sl_22, T.sl_9, T.st_22, T.st_9, T.un_22, T.un_9, hx]
              exact ⟨⟨by omega, by omega, by omega, hw, b1, b2, by omega, hx⟩, rfl⟩
            · simp (config := { dsimp := false }) only [go_sem, reduceIte, Nat.reduceEqDiff, reduceCtorEq, Nat.reduceAdd, Nat.reduceMul, Int.reduceToNat, Int.reduceLE, Int.reduceLT, Int.reduceEq, Int.reduceNe, Nat.reduceLeDiff, Int.reducePow, Nat.reducePow, Nat.reduceLT, Nat.reduceSub, Nat.reduceMod, Nat.reduceDiv, T.ag_22, T.ag_3, T.ag_4, T.ag_9, T.fo_31_0, T.fo_31_1, T.fo_31_2, T.fo_31_3, T.fo_31_4, T.fo_31_5, T.fo_31_6, T.fo_31_7, T.fo_31_8, T.fo_31_9, T.gf_41, T.gf_54, T.gf_55, T.gf_56, T.ib_3, T.ib_9, T.ii_22, T.ii_9, T.ip_3, T.ip_9, T.s8_22, T.s8_9, T.sl_22, T.sl_9, T.st_22, T.st_9, T.un_22, T.un_9, hx]
              exact no fun y => by have := y.2.2.2.2.2.2.2; rw [hx] at this; cases this
          · have hd : (decide (0 ≤ num) && decide (num ≤ 4611686018427387903)) = false := by
              rcases Classical.em (0 ≤ num) with a | a
              · have : ¬ num ≤ 4611686018427387903 := fun x => b2 ⟨a, x⟩
                simp [this]
              · simp [a]
            simp (config := { dsimp := false }) only [go_sem, reduceIte, Nat.reduceEqDiff, reduceCtorEq, Nat.reduceAdd, Nat.reduceMul, Int.reduceToNat, Int.reduceLE, Int.reduceLT, Int.reduceEq, Int.reduceNe, Nat.reduceLeDiff, Int.reducePow, Nat.reducePow, Nat.reduceLT, Nat.reduceSub, Nat.reduceMod, Nat.reduceDiv, T.ag_22, T.ag_3, T.ag_4, T.ag_9, T.fo_31_0, T.fo_31_1, T.fo_31_2, T.fo_31_3, T.fo_31_4, T.fo_31_5, T.fo_31_6, T.fo_31_7, T.fo_31_8, T.fo_31_9, T.gf_41, T.gf_54, T.gf_55, T.gf_56, T.ib_3, T.ib_9, T.ii_22, T.ii_9, T.ip_3, T.ip_9, T.s8_22, T.s8_9, T.sl_22, T.sl_9, T.st_22, T.st_9, T.un_22, T.un_9, hd]
            exact no fun y => b2 y.2.2.2.2.2.1
        · have hd : (decide (0 ≤ len) && decide (len ≤ 16383)) = false := by
            rcases Classical.em (0 ≤ len) with a | a
            · have : ¬ len ≤ 16383 := fun x => b1 ⟨a, x⟩
              simp [this]
            · simp [a]
          simp (config := { dsimp := false }) only [go_sem, reduceIte, Nat.reduceEqDiff, reduceCtorEq, Nat.reduceAdd, Nat.reduceMul, Int.reduceToNat, Int.reduceLE, Int.reduceLT, Int.reduceEq, Int.reduceNe, Nat.reduceLeDiff, Int.reducePow, Nat.reducePow, Nat.reduceLT, Nat.reduceSub, Nat.reduceMod, Nat.reduceDiv, T.ag_22, T.ag_3, T.ag_4, T.ag_9, T.fo_31_0, T.fo_31_1, T.fo_31_2, T.fo_31_3, T.fo_31_4, T.fo_31_5, T.fo_31_6, T.fo_31_7, T.fo_31_8, T.fo_31_9, T.gf_41, T.gf_54, T.gf_55, T.gf_56, T.ib_3, T.ib_9, T.ii_22, T.ii_9, T.ip_3, T.ip_9, T.s8_22, T.s8_9, T.sl_22, T.sl_9, T.st_22, T.st_9, T.un_22, T.un_9, hd]
          exact no fun y => b1 y.2.2.2.2.1
    · have := y.2.2.1; omega
    · have := y.2.1; omega
    · have := y.1; omega
  · rintro r H ⟨hok, h1, rfl⟩
    refine CodeH.cut3 [] hm (fun r' H => r' 1 = .pointer (some ⟨h.next, 0, none⟩) ∧ r' 3 = .bool (decide (l = [])) ∧ r' 4 = .bool (decide (1 ≤ sz ∧ sz ≤ 4)) ∧ r' 5 = .bool (decide (len = 0 ∧ num = 0 ∧ sz = 0 ∧ ph = false)) ∧ H = h.alloc (.cells (hdv k v d s t len num sz ph (.slice A l.length m)) .own)) (by kernel_rfl) ?_ ?_
    · have hl0 : ((l.length : Int) = 0) = (l = []) := propext ⟨fun x => List.length_eq_zero_iff.1 (by omega), fun x => by rw [x]; rfl⟩
      simp (config := { dsimp := false }) only [go_sem, reduceIte, Nat.reduceEqDiff, reduceCtorEq, Nat.reduceAdd, Nat.reduceMul, Int.reduceToNat, Int.reduceLE, Int.reduceLT, Int.reduceEq, Int.reduceNe, Nat.reduceLeDiff, Int.reducePow, Nat.reducePow, Nat.reduceLT, Nat.reduceSub, Nat.reduceMod, Nat.reduceDiv, T.ag_22, T.ag_3, T.ag_4, T.ag_9, T.fo_31_0, T.fo_31_1, T.fo_31_2, T.fo_31_3, T.fo_31_4, T.fo_31_5, T.fo_31_6, T.fo_31_7, T.fo_31_8, T.fo_31_9, T.gf_41, T.gf_54, T.gf_55, T.gf_56, T.ib_3, T.ib_9, T.ii_22, T.ii_9, T.ip_3, T.ip_9, T.s8_22, T.s8_9, T.sl_22, T.sl_9, T.st_22, T.st_9, T.un_22, T.un_9, h1, hdv, hl0]
      refine CallsH.pure _ rfl (within_ph sz 1 4 _) ?_
      have hd : (decide (1 ≤ sz) && decide (sz ≤ 4)) = decide (1 ≤ sz ∧ sz ≤ 4) := by simp
      simp (config := { dsimp := false }) only [go_sem, reduceIte, Nat.reduceEqDiff, reduceCtorEq, Nat.reduceAdd, Nat.reduceMul, Int.reduceToNat, Int.reduceLE, Int.reduceLT, Int.reduceEq, Int.reduceNe, Nat.reduceLeDiff, Int.reducePow, Nat.reducePow, Nat.reduceLT, Nat.reduceSub, Nat.reduceMod, Nat.reduceDiv, T.ag_22, T.ag_3, T.ag_4, T.ag_9, T.fo_31_0, T.fo_31_1, T.fo_31_2, T.fo_31_3, T.fo_31_4, T.fo_31_5, T.fo_31_6, T.fo_31_7, T.fo_31_8, T.fo_31_9, T.gf_41, T.gf_54, T.gf_55, T.gf_56, T.ib_3, T.ib_9, T.ii_22, T.ii_9, T.ip_3, T.ip_9, T.s8_22, T.s8_9, T.sl_22, T.sl_9, T.st_22, T.st_9, T.un_22, T.un_9, h1, hdv, hl0, hd]
      cases ph <;> simp +contextual
    · rintro r' H ⟨h1, h3, h4, h5, rfl⟩
      refine CodeH.of_vc [] hm (by kernel_rfl) ?_
      have hk : k = 0 ∨ k = 1 ∨ k = 2 ∨ k = 3 ∨ k = 4 ∨ k = 5 ∨ ((k = 0) = False ∧ (k = 1) = False ∧ (k = 2) = False ∧ (k = 3) = False ∧ (k = 4) = False ∧ (k = 5) = False) := by
        simp only [eq_iff_iff, iff_false]; omega
      rcases hk with rfl | rfl | rfl | rfl | rfl | rfl | ⟨e0, e1, e2, e3, e4, e5⟩
      iterate 6
        · cases ph
          all_goals
            simp (config := { dsimp := false }) only [go_sem, reduceIte, Nat.reduceEqDiff, reduceCtorEq, Nat.reduceAdd, Nat.reduceMul, Int.reduceToNat, Int.reduceLE, Int.reduceLT, Int.reduceEq, Int.reduceNe, Nat.reduceLeDiff, Int.reducePow, Nat.reducePow, Nat.reduceLT, Nat.reduceSub, Nat.reduceMod, Nat.reduceDiv, T.ag_22, T.ag_3, T.ag_4, T.ag_9, T.fo_31_0, T.fo_31_1, T.fo_31_2, T.fo_31_3, T.fo_31_4, T.fo_31_5, T.fo_31_6, T.fo_31_7, T.fo_31_8, T.fo_31_9, T.gf_41, T.gf_54, T.gf_55, T.gf_56, T.ib_3, T.ib_9, T.ii_22, T.ii_9, T.ip_3, T.ip_9, T.s8_22, T.s8_9, T.sl_22, T.sl_9, T.st_22, T.st_9, T.un_22, T.un_9, h1, h3, h4, h5, hdv]
            simp only [rightP, hok, true_and]
            simp +contextual <;> (try (intros; omega))
      · simp (config := { dsimp := false }) only [go_sem, reduceIte, Nat.reduceEqDiff, reduceCtorEq, Nat.reduceAdd, Nat.reduceMul, Int.reduceToNat, Int.reduceLE, Int.reduceLT, Int.reduceEq, Int.reduceNe, Nat.reduceLeDiff, Int.reducePow, Nat.reducePow, Nat.reduceLT, Nat.reduceSub, Nat.reduceMod, Nat.reduceDiv, T.ag_22, T.ag_3, T.ag_4, T.ag_9, T.fo_31_0, T.fo_31_1, T.fo_31_2, T.fo_31_3, T.fo_31_4, T.fo_31_5, T.fo_31_6, T.fo_31_7, T.fo_31_8, T.fo_31_9, T.gf_41, T.gf_54, T.gf_55, T.gf_56, T.ib_3, T.ib_9, T.ii_22, T.ii_9, T.ip_3, T.ip_9, T.s8_22, T.s8_9, T.sl_22, T.sl_9, T.st_22, T.st_9, T.un_22, T.un_9, h1, h3, h4, h5, hdv, e0, e1, e2, e3, e4, e5]
        simp [rightP, e0, e1, e2, e3, e4, e5]
end Ph
