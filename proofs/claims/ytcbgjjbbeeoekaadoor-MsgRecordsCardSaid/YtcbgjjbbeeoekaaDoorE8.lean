import Derived.Test.YtcbgjjbbeeoekaaDoorE7
set_option maxRecDepth 100000
set_option maxHeartbeats 4000000
set_option linter.unusedSimpArgs false
set_option linter.unusedVariables false
namespace Ph
open Go Go.Proofs
attribute [local irreducible] Value.cells
attribute [local go_sem ↓] y_move y_assign y_pick y_nil y_bin y_un y_fa y_field y_ext y_ia y_ix y_slice y_build y_mf y_rg y_nx y_en y_mm y_lk y_mu y_del y_load y_len y_cap y_min y_max y_conv y_bs y_mk y_alloc y_box y_store y_clear y_app y_callf y_callt s_move s_assign s_pick s_nil s_bin s_un s_fa s_field s_ext s_ia s_ix s_slice s_conv s_build s_bs s_mf s_alloc s_box s_rg s_nx s_en s_mm s_lk s_mu s_del s_load s_store s_len s_clear s_cap s_min s_max s_app s_call q_call q_move q_assign q_pick q_nil q_bin q_un q_fa q_field q_ext q_ia q_ix q_slice q_conv q_build q_mf q_lk q_load q_len q_cap q_min q_max l_nil l_move l_assign l_pick l_nilc l_bin l_un l_fa l_field l_ext l_ia l_ix l_slice l_conv l_build l_mf l_lk l_load l_len l_cap l_min l_max l_call put_eq putN_eq o_nil o_plain o_gate v_nil v_plain v_gate vc_skip vc_region vc_seq vc_cond vc_block vc_loop vc_rf vc_exit vc_ret blk_normal blk_ret blk_exit on_normal on_ret on_exit vc_drawn draw_q s_mk l_bs l_mk l_rg l_nx l_en l_mm l_mu l_del l_alloc l_box l_store l_app l_clear pl_done pl_takeS pl_take pl_alt pl_stop one_plain one_gate
attribute [local go_sem] clear_nil clear_sl onAgg_a onTuple_t onFn_f onFn_y onFunc_f c_int c_nil c_sl c_str sl_sl sl_nil sl_str ix_str ix_agg n_nil n_sl n_str app_eq app_eqZ k_nil k_sl cap_n len_sl len_str len_mn len_m onMap_m onIter_i rg_n rg_m nx_p en_p lk_n lk_m up_m setM_n setM_s del_n del_m kt_s kt_i upd_some upd_none ev_tmp ev_const ev_func rd_some gdst_eq otmp_t otmp_c get_put get_alloc next_put next_alloc get_app next_app init_a resV1 resV2 onPtr_ptr onBool_b onInt_i onSlice_s onSome_s onCells_c lett_eq gate_tt gate_tf gate_ff gate_ft gate_dt gate_df also_eq bin un minmax io_none io_some bo_none bo_some partOf List.getElem?_cons_zero List.getElem?_cons_succ List.getElem?_toArray Option.map_some Option.map_none Option.bind_some ne_eq not_true_eq_false not_false_eq_true false_implies true_implies and_true true_and and_self Bool.false_eq_true Nat.zero_add Nat.add_zero List.size_toArray List.length_cons List.length_nil List.map_toArray List.map_cons List.map_nil Array.getD_eq_getD_getElem? Option.getD_some Bool.not_true Bool.not_false Bool.not_eq_true Option.isNone_some Option.isNone_none List.append_toArray List.append_nil List.nil_append List.cons_append decide_true decide_false in_nil in_cons Bool.and_false Bool.and_true Bool.or_false Bool.true_or Bool.false_or get_mask next_mask get_unmask next_unmask ac_move ac_assign ac_pick ac_nil ac_bin ac_un ac_fa ac_field ac_ext ac_ia ac_ix ac_slice ac_build ac_mf ac_call ac_len ac_lk ac_cap ac_min ac_max accM_m accM_n accM_s accM_t ac_load ac_conv accP_p accS_s accS_n accS_i accS_t fixed_ro fixed_lock fixed_own get_ro next_ro lock_live' lock_cells List.mem_cons List.not_mem_nil or_false false_or or_true true_or and_false false_and IntKind.bits Int.natCast_zero Int.natCast_one size_str data_str list_str mk_str ext_str app_str bytes_str w_byte w_byteu Int.toNat_natCast Int.toNat_zero Int.toNat_one Nat.sub_zero ge_iff_le gt_iff_lt Nat.le_refl Int.le_refl List.drop_zero Int.ofNat_eq_natCast Int.natCast_nonneg Int.sub_zero oc_int oc_bool oc_str oc_ptr oc_sl oc_map oc_func List.set_cons_zero List.set_cons_succ Nat.mul_one List.all_cons List.all_nil Bool.and_self res_nil res_tmp res_cell tup_one tup_two tup_nil fill_nil repl_zero cells_agg List.append_eq List.toList_toArray Nat.zero_mul Nat.one_mul repl_one repl_two onSome_build fill_cons onSome_lit splice_eq cells_int cells_bool cells_str cells_ptr cells_sl cells_map cells_func loadK_n loadK_s load_k storeK_n storeK_s store_k all_arr List.take_zero List.take_succ_cons List.drop_succ_cons List.take_nil List.drop_nil lk_own lk_ro lk_lock lk_lk fixed_lk gate_nt gate_nf gate3_b gate3_u undef Bool.true_and Bool.false_and nx_l nx_r nx_lt put_put resV0
attribute [local go_sem] str_inj size_str
/-! The table of places: Put. -/
/-- where a rest stands -/
def findP (k : List UInt8) : List (List UInt8 × Nat) → Option Nat
  | [] => none
  | x :: t => if k = x.1 then some x.2 else findP k t
def putP : List (List UInt8 × Nat) → List UInt8 → List (List UInt8) → List (List UInt8 × Nat) × List UInt8
  | t, b, [] => (t, b ++ [0])
  | t, b, p :: ps => match findP (Go.Lib.join (p :: ps) [46]) t with
    | some a => if a < 16384 then (t, b ++ [UInt8.ofNat (192 + a / 256), UInt8.ofNat (a % 256)]) else putP t (b ++ [UInt8.ofNat p.length] ++ p) ps
    | none => putP (t ++ [(Go.Lib.join (p :: ps) [46], b.length)]) (b ++ [UInt8.ofNat p.length] ++ p) ps
def entP (l : List (List UInt8 × Nat × Nat)) : List (Value × Value × Nat) := l.map fun x => (.string (str x.1), .int .i64 (x.2.1 : Int), x.2.2)
def seesP (l : List (List UInt8 × Nat × Nat)) : List (List UInt8 × Nat) := l.map fun x => (x.1, x.2.1)
theorem find_entP (k : List UInt8) : ∀ (l : List (List UInt8 × Nat × Nat)) (n : Nat), match findP k (seesP l) with
    | none => findM (.string (str k)) (entP l) n = some none
    | some a => ∃ i, findM (.string (str k)) (entP l) n = some (some (i, .int .i64 (a : Int)))
  | [], n => rfl
  | x :: l, n => by
    have ih := find_entP k l (n + 1)
    show match (if k = x.1 then some x.2.1 else findP k (seesP l)) with
      | none => findM (.string (str k)) ((.string (str x.1), .int .i64 (x.2.1 : Int), x.2.2) :: entP l) n = some none
      | some a => ∃ i, findM (.string (str k)) ((.string (str x.1), .int .i64 (x.2.1 : Int), x.2.2) :: entP l) n = some (some (i, .int .i64 (a : Int)))
    by_cases h : k = x.1
    · rw [if_pos h]
      refine ⟨n, ?_⟩
      unfold findM
      simp [sameK, h]
    · rw [if_neg h]
      have e : findM (.string (str k)) ((.string (str x.1), .int .i64 (x.2.1 : Int), x.2.2) :: entP l) n = findM (.string (str k)) (entP l) (n + 1) := by
        conv => lhs; unfold findM
        simp [sameK, str_inj, h]
      rw [e]; exact ih
theorem joinTail_len (r : List (List UInt8)) : (Go.Lib.joinTail [46] r).length = (r.map fun p => p.length + 1).sum := by
  induction r with
  | nil => rfl
  | cons p r ih =>
    unfold Go.Lib.joinTail at ih ⊢
    rw [List.map_cons, List.flatten_cons, List.length_append, ih, List.map_cons, List.sum_cons]
    simp; try omega
theorem join_len (ps : List (List UInt8)) : (Go.Lib.join ps [46]).length ≤ (ps.map fun p => p.length + 1).sum := by
  cases ps with
  | nil => simp [Go.Lib.join_nil]
  | cons p r => rw [Go.Lib.join_cons, List.length_append, joinTail_len]; simp
theorem sum_drop (f : List UInt8 → Nat) : ∀ (ps : List (List UInt8)) (i : Nat), ((ps.drop i).map f).sum ≤ (ps.map f).sum
  | [], i => by simp
  | p :: ps, 0 => by simp
  | p :: ps, i + 1 => by have := sum_drop f ps i; simp at this ⊢; omega
theorem seesP_add {l2 : List (List UInt8 × Nat × Nat)} {k : List UInt8} {a c : Nat} : seesP (l2 ++ [(k, a, c)]) = seesP l2 ++ [(k, a)] := by unfold seesP; rw [List.map_append]; rfl
/-- a table, in a heap: its cell, and its map if it has one -/
def TabR (h : Heap) (p : Nat) (M : List Nat) (t : List (List UInt8 × Nat)) : Prop := p < h.next ∧ ((h.get p = .live (.cells [.map none] .own) ∧ t = [] ∧ M = []) ∨
  ∃ id cl l, M = [id] ∧ h.get p = .live (.cells [.map (some id)] .own) ∧ id < h.next ∧ id ≠ p ∧ h.get id = .live (.map (entP l) cl .own) ∧ seesP l = t)
/-- (30: the type map[string]int here) -/
theorem imt : isMapT Tryd.prog 54 = true := by kernel_rfl
theorem OwnRow.maskW {α : Type} {E : Enc α} {h : Heap} {v : Value} {D wr : List Nat} {l : List α} (hO : OwnRow E h v D l) (hD : ∀ d ∈ D, d ∈ wr) : OwnRow E (h.mask wr) v D l :=
  hO.keep (Nat.le_refl _) fun d hd => by rw [get_mask, if_pos (hD d hd)]
theorem OwnRow.unmaskW {α : Type} {E : Enc α} {h h' : Heap} {v : Value} {D wr : List Nat} {l : List α} (hO : OwnRow E h' v D l) (hw : ∀ d ∈ D, d ∈ wr ∨ h.next ≤ d) : OwnRow E (h.unmask wr h') v D l :=
  hO.keep (by rw [next_unmask]; exact Nat.le_refl _) fun d hd => by
    rw [get_unmask, if_neg]
    rintro ⟨a, b⟩
    rcases hw d hd with h1 | h1
    · exact b h1
    · omega
theorem len_row {h H : Heap} {w : Value} {D : List Nat} {b : List UInt8} (hO : OwnRow u8E h w D b) {K : Value → Prop} : @lenH Tryd.prog (some 32) w H ⟨K⟩ = K (.int .i64 b.length) := by
  obtain ⟨A, st, rfl⟩ := hO.row.form
  rw [len_sl, if_pos T.sl_32]; rfl
theorem place_hi {a : Nat} (ha : a < 16384) : IntKind.u8.wrap ((BitVec.ofInt IntKind.u8.bits 192 ||| BitVec.ofInt IntKind.u8.bits (IntKind.u8.wrap ((a : Int).fdiv (2 ^ min 8 64)))).toNat : Int) = ((UInt8.ofNat (192 + a / 256)).toNat : Int) := by
  have e : (a : Int).fdiv (2 ^ min 8 64) = ((a / 256 : Nat) : Int) := by
    rw [Int.fdiv_eq_ediv_of_nonneg _ (by decide), show ((2 : Int) ^ min 8 64) = 256 from by decide]; omega
  rw [e]
  have h : a / 256 < 64 := by omega
  generalize a / 256 = n at h
  have key : ∀ n : Fin 64, IntKind.u8.wrap ((BitVec.ofInt IntKind.u8.bits 192 ||| BitVec.ofInt IntKind.u8.bits (IntKind.u8.wrap ((n.val : Nat) : Int))).toNat : Int) = ((UInt8.ofNat (192 + n.val)).toNat : Int) := by decide +kernel
  exact key ⟨n, h⟩
theorem place_lo {a : Nat} : IntKind.u8.wrap (a : Int) = ((UInt8.ofNat (a % 256)).toNat : Int) := by
  simp only [IntKind.wrap, IntKind.bits, IntKind.signed]
  simp
theorem PutN_ph (h : Heap) (v : Value) (b : List UInt8) : @CallsH Tryd.prog 22 #[.pointer none, v, .string (str b)] h ⟨fun u H => u = .tuple #[.slice none 0 0, .int .i64 1] ∧ H = h⟩ := by
  (refine calls_of_vc [] hm Tryd.func22 rfl (ts := [6, 7]) rfl (by kernel_rfl) (by simp) ?_; simp (config := { dsimp := false, maxSteps := 10000000 }) (disch := omega) only [go_sem, reduceIte, Nat.reduceEqDiff, reduceCtorEq, Nat.reduceAdd, Nat.reduceMul, Int.reduceToNat, Int.reduceLE, Int.reduceLT, Int.reduceEq, Int.reduceNe, Nat.reduceLeDiff, Int.reducePow, Nat.reducePow, Nat.reduceLT, Nat.reduceSub, Nat.reduceMod, Nat.reduceDiv, slot_neg, slot_pos, T.ag_54, T.ag_9, T.eb_32, T.es_59, T.ez_32, T.fo_56_0, T.gf_24, T.gf_34, T.ib_25, T.ib_3, T.ib_5, T.ib_53, T.ib_54, T.ii_3, T.ii_32, T.ii_5, T.ii_59, T.ii_9, T.ip_25, T.ip_3, T.ip_5, T.ip_53, T.ip_54, T.mt_54, T.s8_3, T.s8_32, T.s8_5, T.s8_59, T.s8_9, T.sl_3, T.sl_32, T.sl_5, T.sl_59, T.sl_9, T.st_3, T.st_32, T.st_5, T.st_59, T.st_9, T.un_3, T.un_32, T.un_5, T.un_59, T.un_9, T.zv_3, init_a])
theorem Put_ph (h : Heap) (p : Nat) (M : List Nat) (t : List (List UInt8 × Nat)) (v : Value) (D : List Nat) (b l : List UInt8) (hT : TabR h p M t) (hO : OwnRow u8E h v D b) (hd : ∀ d ∈ D, d ≠ p ∧ d ∉ M) (hl : l.length < 9223372036854775807) (hb : b.length ≤ 1099511627776) (ht : ∀ x ∈ t, x.2 ≤ 1099511627776) :
    @CallsH Tryd.prog 22 #[.pointer (some ⟨p, 0, none⟩), v, .string (str l)] h ⟨fun u H => match nameOf l with
      | none => u = .tuple #[.slice none 0 0, .int .i64 14] ∧ Upd h H []
      | some ps => ∃ w D' M', u = .tuple #[w, .int .i64 0] ∧ TabR H p M' (putP t b ps).1 ∧ OwnRow u8E H w D' (putP t b ps).2 ∧ (∀ d ∈ D', (d ∈ D ∨ h.next ≤ d) ∧ d ∉ M') ∧ (∀ m ∈ M', m ∈ M ∨ h.next ≤ m) ∧ Upd h H (p :: M ++ D)⟩ := by
  have hov := hO.row.one
  cases hn : nameOf l with
  | none =>
    (refine calls_of_vc [] hm Tryd.func22 rfl (ts := [6, 7]) rfl (by kernel_rfl) (by simp) ?_; simp (config := { dsimp := false, maxSteps := 10000000 }) (disch := omega) only [go_sem, reduceIte, Nat.reduceEqDiff, reduceCtorEq, Nat.reduceAdd, Nat.reduceMul, Int.reduceToNat, Int.reduceLE, Int.reduceLT, Int.reduceEq, Int.reduceNe, Nat.reduceLeDiff, Int.reducePow, Nat.reducePow, Nat.reduceLT, Nat.reduceSub, Nat.reduceMod, Nat.reduceDiv, slot_neg, slot_pos, T.ag_54, T.ag_9, T.eb_32, T.es_59, T.ez_32, T.fo_56_0, T.gf_24, T.gf_34, T.ib_25, T.ib_3, T.ib_5, T.ib_53, T.ib_54, T.ii_3, T.ii_32, T.ii_5, T.ii_59, T.ii_9, T.ip_25, T.ip_3, T.ip_5, T.ip_53, T.ip_54, T.mt_54, T.s8_3, T.s8_32, T.s8_5, T.s8_59, T.s8_9, T.sl_3, T.sl_32, T.sl_5, T.sl_59, T.sl_9, T.st_3, T.st_32, T.st_5, T.st_59, T.st_9, T.un_3, T.un_32, T.un_5, T.un_59, T.un_9, T.zv_3, init_a, hov.1, hov.2])
    refine (Labels_ph h l hl).mono fun u H1 ⟨hU1, hu1⟩ => ?_
    rw [hn] at hu1
    dsimp only at hu1
    subst hu1
    simp (config := { dsimp := false, maxSteps := 10000000 }) (disch := omega) only [go_sem, reduceIte, Nat.reduceEqDiff, reduceCtorEq, Nat.reduceAdd, Nat.reduceMul, Int.reduceToNat, Int.reduceLE, Int.reduceLT, Int.reduceEq, Int.reduceNe, Nat.reduceLeDiff, Int.reducePow, Nat.reducePow, Nat.reduceLT, Nat.reduceSub, Nat.reduceMod, Nat.reduceDiv, slot_neg, slot_pos, T.ag_54, T.ag_9, T.eb_32, T.es_59, T.ez_32, T.fo_56_0, T.gf_24, T.gf_34, T.ib_25, T.ib_3, T.ib_5, T.ib_53, T.ib_54, T.ii_3, T.ii_32, T.ii_5, T.ii_59, T.ii_9, T.ip_25, T.ip_3, T.ip_5, T.ip_53, T.ip_54, T.mt_54, T.s8_3, T.s8_32, T.s8_5, T.s8_59, T.s8_9, T.sl_3, T.sl_32, T.sl_5, T.sl_59, T.sl_9, T.st_3, T.st_32, T.st_5, T.st_59, T.st_9, T.un_3, T.un_32, T.un_5, T.un_59, T.un_9, T.zv_3]
    exact hU1
  | some ps =>
    have hpok := (name_ok hn).2
    have hplen := name_len hn
    have hcnt := count_le ps
    (refine calls_of_codeR (rs := [.tmp 6, .tmp 7]) Tryd.func22 rfl rfl (by simp) ?_)
    (refine CodeH.seq' (CodeH.of_vc [] hm (by kernel_rfl) ?_); simp (config := { dsimp := false, maxSteps := 10000000 }) (disch := omega) only [go_sem, reduceIte, Nat.reduceEqDiff, reduceCtorEq, Nat.reduceAdd, Nat.reduceMul, Int.reduceToNat, Int.reduceLE, Int.reduceLT, Int.reduceEq, Int.reduceNe, Nat.reduceLeDiff, Int.reducePow, Nat.reducePow, Nat.reduceLT, Nat.reduceSub, Nat.reduceMod, Nat.reduceDiv, slot_neg, slot_pos, T.ag_54, T.ag_9, T.eb_32, T.es_59, T.ez_32, T.fo_56_0, T.gf_24, T.gf_34, T.ib_25, T.ib_3, T.ib_5, T.ib_53, T.ib_54, T.ii_3, T.ii_32, T.ii_5, T.ii_59, T.ii_9, T.ip_25, T.ip_3, T.ip_5, T.ip_53, T.ip_54, T.mt_54, T.s8_3, T.s8_32, T.s8_5, T.s8_59, T.s8_9, T.sl_3, T.sl_32, T.sl_5, T.sl_59, T.sl_9, T.st_3, T.st_32, T.st_5, T.st_59, T.st_9, T.un_3, T.un_32, T.un_5, T.un_59, T.un_9, T.zv_3, init_a])
    (refine CodeH.seq' (CodeH.of_vc [] hm (by kernel_rfl) ?_); simp (config := { dsimp := false, maxSteps := 10000000 }) (disch := omega) only [go_sem, reduceIte, Nat.reduceEqDiff, reduceCtorEq, Nat.reduceAdd, Nat.reduceMul, Int.reduceToNat, Int.reduceLE, Int.reduceLT, Int.reduceEq, Int.reduceNe, Nat.reduceLeDiff, Int.reducePow, Nat.reducePow, Nat.reduceLT, Nat.reduceSub, Nat.reduceMod, Nat.reduceDiv, slot_neg, slot_pos, T.ag_54, T.ag_9, T.eb_32, T.es_59, T.ez_32, T.fo_56_0, T.gf_24, T.gf_34, T.ib_25, T.ib_3, T.ib_5, T.ib_53, T.ib_54, T.ii_3, T.ii_32, T.ii_5, T.ii_59, T.ii_9, T.ip_25, T.ip_3, T.ip_5, T.ip_53, T.ip_54, T.mt_54, T.s8_3, T.s8_32, T.s8_5, T.s8_59, T.s8_9, T.sl_3, T.sl_32, T.sl_5, T.sl_59, T.sl_9, T.st_3, T.st_32, T.st_5, T.st_59, T.st_9, T.un_3, T.un_32, T.un_5, T.un_59, T.un_9, T.zv_3, init_a])
    refine CodeH.seq (fun r H => r 0 = .pointer (some ⟨p, 0, none⟩) ∧ r 1 = v ∧ r 9 = .int .i64 0 ∧ ∃ x E, r 8 = x ∧ OwnRow tE H x E ps ∧ (∀ d ∈ E, h.next ≤ d) ∧ Upd h H []) (CodeH.of_vc [] hm (by kernel_rfl) ?_) fun r H1 ⟨q0, q1, q9, x, E, q8, hX, hE, hU1⟩ => ?_
    · simp (config := { dsimp := false, maxSteps := 10000000 }) (disch := omega) only [go_sem, reduceIte, Nat.reduceEqDiff, reduceCtorEq, Nat.reduceAdd, Nat.reduceMul, Int.reduceToNat, Int.reduceLE, Int.reduceLT, Int.reduceEq, Int.reduceNe, Nat.reduceLeDiff, Int.reducePow, Nat.reducePow, Nat.reduceLT, Nat.reduceSub, Nat.reduceMod, Nat.reduceDiv, slot_neg, slot_pos, T.ag_54, T.ag_9, T.eb_32, T.es_59, T.ez_32, T.fo_56_0, T.gf_24, T.gf_34, T.ib_25, T.ib_3, T.ib_5, T.ib_53, T.ib_54, T.ii_3, T.ii_32, T.ii_5, T.ii_59, T.ii_9, T.ip_25, T.ip_3, T.ip_5, T.ip_53, T.ip_54, T.mt_54, T.s8_3, T.s8_32, T.s8_5, T.s8_59, T.s8_9, T.sl_3, T.sl_32, T.sl_5, T.sl_59, T.sl_9, T.st_3, T.st_32, T.st_5, T.st_59, T.st_9, T.un_3, T.un_32, T.un_5, T.un_59, T.un_9, T.zv_3, hov.1, hov.2]
      refine (Labels_ph h l hl).mono fun u H1 ⟨hU1, hu1⟩ => ?_
      rw [hn] at hu1
      obtain ⟨x, E, rfl, hX, hE⟩ := hu1
      have hox := hX.row.one
      simp (config := { dsimp := false, maxSteps := 10000000 }) (disch := omega) only [go_sem, reduceIte, Nat.reduceEqDiff, reduceCtorEq, Nat.reduceAdd, Nat.reduceMul, Int.reduceToNat, Int.reduceLE, Int.reduceLT, Int.reduceEq, Int.reduceNe, Nat.reduceLeDiff, Int.reducePow, Nat.reducePow, Nat.reduceLT, Nat.reduceSub, Nat.reduceMod, Nat.reduceDiv, slot_neg, slot_pos, T.ag_54, T.ag_9, T.eb_32, T.es_59, T.ez_32, T.fo_56_0, T.gf_24, T.gf_34, T.ib_25, T.ib_3, T.ib_5, T.ib_53, T.ib_54, T.ii_3, T.ii_32, T.ii_5, T.ii_59, T.ii_9, T.ip_25, T.ip_3, T.ip_5, T.ip_53, T.ip_54, T.mt_54, T.s8_3, T.s8_32, T.s8_5, T.s8_59, T.s8_9, T.sl_3, T.sl_32, T.sl_5, T.sl_59, T.sl_9, T.st_3, T.st_32, T.st_5, T.st_59, T.st_9, T.un_3, T.un_32, T.un_5, T.un_59, T.un_9, T.zv_3, hov.1, hov.2, hox.1, hox.2]
      exact ⟨x, E, rfl, hX, hE, hU1⟩
    have hox := hX.row.one
    refine CodeH.seq (fun r H => r 0 = .pointer (some ⟨p, 0, none⟩) ∧ r 1 = v ∧ r 8 = x ∧ H = H1) (CodeH.of_vc [] hm (by kernel_rfl) ?_) fun r H ⟨q0, q1, q8, eH⟩ => ?_
    · simp (config := { dsimp := false, maxSteps := 10000000 }) (disch := omega) only [go_sem, reduceIte, Nat.reduceEqDiff, reduceCtorEq, Nat.reduceAdd, Nat.reduceMul, Int.reduceToNat, Int.reduceLE, Int.reduceLT, Int.reduceEq, Int.reduceNe, Nat.reduceLeDiff, Int.reducePow, Nat.reducePow, Nat.reduceLT, Nat.reduceSub, Nat.reduceMod, Nat.reduceDiv, slot_neg, slot_pos, T.ag_54, T.ag_9, T.eb_32, T.es_59, T.ez_32, T.fo_56_0, T.gf_24, T.gf_34, T.ib_25, T.ib_3, T.ib_5, T.ib_53, T.ib_54, T.ii_3, T.ii_32, T.ii_5, T.ii_59, T.ii_9, T.ip_25, T.ip_3, T.ip_5, T.ip_53, T.ip_54, T.mt_54, T.s8_3, T.s8_32, T.s8_5, T.s8_59, T.s8_9, T.sl_3, T.sl_32, T.sl_5, T.sl_59, T.sl_9, T.st_3, T.st_32, T.st_5, T.st_59, T.st_9, T.un_3, T.un_32, T.un_5, T.un_59, T.un_9, T.zv_3, q0, q1, q8, q9]
    subst eH
    have hpn : p < h.next := hT.1
    have hpn1 : p < H.next := Nat.lt_of_lt_of_le hpn hU1.1
    refine CodeH.seq (fun r H2 => r 0 = .pointer (some ⟨p, 0, none⟩) ∧ r 1 = v ∧ r 8 = x ∧ ∃ id cl l', (id ∈ M ∨ h.next ≤ id) ∧ H2.get p = .live (.cells [.map (some id)] .own) ∧ id < H2.next ∧ id ≠ p ∧ id ∉ E ∧ id ∉ D ∧ H2.get id = .live (.map (entP l') cl .own) ∧ seesP l' = t ∧ Upd H H2 [p]) (CodeH.of_vc [] hm (by kernel_rfl) ?_) fun r H2 ⟨q0, q1, q8, id, cl, l', hid, hp2, hid2, hidp, hidE, hidD, hm2, hs2, hU2⟩ => ?_
    · rcases hT.2 with ⟨h3, h4, h5⟩ | ⟨id, cl, l', h3, h4, h5, h6, h7, h8⟩
      · have h3' := (hU1.2 p hpn (by simp)).trans h3
        simp (config := { dsimp := false, maxSteps := 10000000 }) (disch := omega) only [go_sem, reduceIte, Nat.reduceEqDiff, reduceCtorEq, Nat.reduceAdd, Nat.reduceMul, Int.reduceToNat, Int.reduceLE, Int.reduceLT, Int.reduceEq, Int.reduceNe, Nat.reduceLeDiff, Int.reducePow, Nat.reducePow, Nat.reduceLT, Nat.reduceSub, Nat.reduceMod, Nat.reduceDiv, slot_neg, slot_pos, T.ag_54, T.ag_9, T.eb_32, T.es_59, T.ez_32, T.fo_56_0, T.gf_24, T.gf_34, T.ib_25, T.ib_3, T.ib_5, T.ib_53, T.ib_54, T.ii_3, T.ii_32, T.ii_5, T.ii_59, T.ii_9, T.ip_25, T.ip_3, T.ip_5, T.ip_53, T.ip_54, T.mt_54, T.s8_3, T.s8_32, T.s8_5, T.s8_59, T.s8_9, T.sl_3, T.sl_32, T.sl_5, T.sl_59, T.sl_9, T.st_3, T.st_32, T.st_5, T.st_59, T.st_9, T.un_3, T.un_32, T.un_5, T.un_59, T.un_9, T.zv_3, q0, q1, q8, h3', imt]
        have n1 := hU1.1
        exact ⟨H.next, 0, [], .inr n1, rfl, by omega, by omega, fun hh => by have := hX.lt _ hh; omega, fun hh => by have := hO.lt _ hh; omega, by rw [if_neg (by omega), if_pos rfl]; rfl, h4.symm, (Upd.alloc _ _ _).put (.inl (by simp))⟩
      · have h4' := (hU1.2 p hpn (by simp)).trans h4
        simp (config := { dsimp := false, maxSteps := 10000000 }) (disch := omega) only [go_sem, reduceIte, Nat.reduceEqDiff, reduceCtorEq, Nat.reduceAdd, Nat.reduceMul, Int.reduceToNat, Int.reduceLE, Int.reduceLT, Int.reduceEq, Int.reduceNe, Nat.reduceLeDiff, Int.reducePow, Nat.reducePow, Nat.reduceLT, Nat.reduceSub, Nat.reduceMod, Nat.reduceDiv, slot_neg, slot_pos, T.ag_54, T.ag_9, T.eb_32, T.es_59, T.ez_32, T.fo_56_0, T.gf_24, T.gf_34, T.ib_25, T.ib_3, T.ib_5, T.ib_53, T.ib_54, T.ii_3, T.ii_32, T.ii_5, T.ii_59, T.ii_9, T.ip_25, T.ip_3, T.ip_5, T.ip_53, T.ip_54, T.mt_54, T.s8_3, T.s8_32, T.s8_5, T.s8_59, T.s8_9, T.sl_3, T.sl_32, T.sl_5, T.sl_59, T.sl_9, T.st_3, T.st_32, T.st_5, T.st_59, T.st_9, T.un_3, T.un_32, T.un_5, T.un_59, T.un_9, T.zv_3, q0, q1, q8, h4', imt]
        have n1 := hU1.1
        exact ⟨id, cl, l', .inl (by rw [h3]; simp), rfl, by omega, h6, fun hh => by have := hE id hh; omega, fun hh => (hd id hh).2 (by rw [h3]; simp), (hU1.2 id h5 (by simp)).trans h7, h8, Upd.refl _ _⟩
    have hX2 : OwnRow tE H2 x E ps := hX.upd hU2 fun d hd1 => by simp; intro e; have := hE d hd1; omega
    have hO2 : OwnRow u8E H2 v D b := (hO.upd hU1 (by simp)).upd hU2 fun d hd1 => by simp; exact (hd d hd1).1
    have hUp : Upd h H2 (p :: M ++ D) := (hU1.mono (by simp)).trans (hU2.mono (G := p :: M ++ D) (by simp)) (fun d hd1 => .inl hd1)
    have hDE : ∀ d ∈ D, d ∉ E := fun d h1 h2 => by have := hO.lt d h1; have := hE d h2; omega
    have hpE : p ∉ E := fun hh => by have := hE p hh; omega
    obtain ⟨A, st, hxv⟩ := hX2.form
    refine CodeH.of_vc [] hm (by kernel_rfl) ?_
    simp (config := { dsimp := false, maxSteps := 10000000 }) (disch := omega) only [go_sem, reduceIte, Nat.reduceEqDiff, reduceCtorEq, Nat.reduceAdd, Nat.reduceMul, Int.reduceToNat, Int.reduceLE, Int.reduceLT, Int.reduceEq, Int.reduceNe, Nat.reduceLeDiff, Int.reducePow, Nat.reducePow, Nat.reduceLT, Nat.reduceSub, Nat.reduceMod, Nat.reduceDiv, slot_neg, slot_pos, T.ag_54, T.ag_9, T.eb_32, T.es_59, T.ez_32, T.fo_56_0, T.gf_24, T.gf_34, T.ib_25, T.ib_3, T.ib_5, T.ib_53, T.ib_54, T.ii_3, T.ii_32, T.ii_5, T.ii_59, T.ii_9, T.ip_25, T.ip_3, T.ip_5, T.ip_53, T.ip_54, T.mt_54, T.s8_3, T.s8_32, T.s8_5, T.s8_59, T.s8_9, T.sl_3, T.sl_32, T.sl_5, T.sl_59, T.sl_9, T.st_3, T.st_32, T.st_5, T.st_59, T.st_9, T.un_3, T.un_32, T.un_5, T.un_59, T.un_9, T.zv_3, q0, q1, q8, hxv]
    refine loop_intro [] hm (fun r H3 => ∃ (i : Nat) (w : Value) (D2 : List Nat) (b2 : List UInt8) (l2 : List (List UInt8 × Nat × Nat)) (cl2 : Nat), i ≤ ps.length ∧ b2.length ≤ b.length + 64 * i ∧ r 0 = .pointer (some ⟨p, 0, none⟩) ∧ r 1 = w ∧ r 8 = x ∧ r 34 = .int .i64 ps.length ∧ r 35 = .int .i64 i ∧ H3.get p = .live (.cells [.map (some id)] .own) ∧ p < H3.next ∧ id < H3.next ∧ H3.get id = .live (.map (entP l2) cl2 .own) ∧ OwnRow u8E H3 w D2 b2 ∧ OwnRow tE H3 x E ps ∧ (∀ d ∈ D2, (d ∈ D ∨ h.next ≤ d) ∧ d ≠ p ∧ d ≠ id ∧ d ∉ E) ∧ putP t b ps = putP (seesP l2) b2 (ps.drop i) ∧ Upd h H3 (p :: M ++ D)) (fun r _ => match r 35 with | .int _ i => ps.length - i.toNat | _ => 0) ?_ ?_
    · exact ⟨0, v, D, b, l', cl, by omega, by omega, by simp [upd, q0], by simp [upd, q1], by simp [upd, q8, hxv], by simp [upd], by simp [upd], hp2, Nat.lt_of_lt_of_le hpn1 hU2.1, hid2, hm2, hO2, hX2, fun d h1 => ⟨.inl h1, (hd d h1).1, fun e => hidD (e ▸ h1), hDE d h1⟩, by rw [hs2]; rfl, hUp⟩
    · rintro r H3 ⟨i, w, D2, b2, l2, cl2, hi, hbl, q0, q1, q8, q34, q35, hp3, hpn3, hid3, hm3, hO3, hX3, hD3, hput, hU3⟩
      have how := hO3.row.one
      by_cases hil : i < ps.length
      · have c1 : ((i : Int) < (ps.length : Int)) = True := eq_true (by omega)
        have wi : IntKind.i64.wrap ((i : Int) + 1) = ((i + 1 : Nat) : Int) := by rw [i64wrap] <;> omega
        have hx : ps[i]? = some ps[i] := List.getElem?_eq_getElem hil
        have hpo := ok_len (hpok _ (List.getElem_mem hil))
        rw [List.drop_eq_getElem_cons hil, putP] at hput
        have hX3' := hX3
        have pD2 : p ∉ D2 := fun hh => (hD3 p hh).2.1 rfl
        have idD2 : id ∉ D2 := fun hh => (hD3 id hh).2.2.1 rfl
        have hn3 := hU3.1
        have hEn : ∀ d ∈ E, d < H3.next := fun d h9 => hX3.lt d h9
        have newD : ∀ d, H3.next ≤ d → (d ∈ D ∨ h.next ≤ d) ∧ d ≠ p ∧ d ≠ id ∧ d ∉ E := fun d h9 => ⟨.inr (by omega), by omega, by omega, fun h8 => by have := hEn d h8; omega⟩
        rcases hX3 with ⟨_, h0, _⟩ | ⟨q, off, vs, hE3, hqn, hv', hg, hR⟩
        · rw [h0] at hil; simp at hil
        have hcell := (rowT_iff.1 hR).2 i _ hx
        have hrow : RowIn tE H3 (.slice (some ⟨q, off + i * 1, none⟩) (ps.length - i) 1) (ps.drop i) := .inr ⟨q, off + i * 1, vs, .own, by rw [List.length_drop]; rfl, hg, hR.drop i hi⟩
        rw [List.drop_eq_getElem_cons hil] at hrow
        rw [show tE.k = 1 from rfl] at hv'
        have dq : (q ∈ D2) = False := eq_false fun hh => (hD3 q hh).2.2.2 (by rw [hE3]; simp)
        have wp : IntKind.u8.wrap (ps[i].length : Int) = ((UInt8.ofNat ps[i].length).toNat : Int) := by rw [u8wrap (by omega) (by omega)]; simp; omega
        generalize ps[i] = pt at *
        have hjl : (Go.Lib.join (pt :: ps.drop (i + 1)) [46]).length ≤ 254 := by
          refine Nat.le_trans (join_len _) (Nat.le_trans ?_ hplen)
          have := sum_drop (fun p => p.length + 1) ps i
          rw [List.drop_eq_getElem_cons hil] at this
          rw [show pt = ps[i] from by have := List.getElem?_eq_getElem hil; rw [hx] at this; exact Option.some.inj this]
          exact this
        simp (config := { dsimp := false, maxSteps := 10000000 }) (disch := omega) only [go_sem, reduceIte, Nat.reduceEqDiff, reduceCtorEq, Nat.reduceAdd, Nat.reduceMul, Int.reduceToNat, Int.reduceLE, Int.reduceLT, Int.reduceEq, Int.reduceNe, Nat.reduceLeDiff, Int.reducePow, Nat.reducePow, Nat.reduceLT, Nat.reduceSub, Nat.reduceMod, Nat.reduceDiv, slot_neg, slot_pos, T.ag_54, T.ag_9, T.eb_32, T.es_59, T.ez_32, T.fo_56_0, T.gf_24, T.gf_34, T.ib_25, T.ib_3, T.ib_5, T.ib_53, T.ib_54, T.ii_3, T.ii_32, T.ii_5, T.ii_59, T.ii_9, T.ip_25, T.ip_3, T.ip_5, T.ip_53, T.ip_54, T.mt_54, T.s8_3, T.s8_32, T.s8_5, T.s8_59, T.s8_9, T.sl_3, T.sl_32, T.sl_5, T.sl_59, T.sl_9, T.st_3, T.st_32, T.st_5, T.st_59, T.st_9, T.un_3, T.un_32, T.un_5, T.un_59, T.un_9, T.zv_3, q0, q1, q8, q34, q35, c1, hv']
        rw [show ((ps.length : Int) - (i : Int)).toNat = ps.length - i from by omega]
        rw [Nat.mul_one] at hrow
        refine ⟨by omega, (Join_ph H3 _ _ hrow (by simp; omega) (by omega)).mono fun u H4 ⟨hu4, hH4⟩ => ?_⟩
        subst hu4 hH4
        have hfe := find_entP (Go.Lib.join (pt :: ps.drop (i + 1)) [46]) l2 0
        generalize Go.Lib.join (pt :: ps.drop (i + 1)) [46] = key at *
        cases hf : findP key (seesP l2) with
        | some a =>
          rw [hf] at hfe hput
          obtain ⟨k, hfe⟩ := hfe
          dsimp only at hput
          by_cases ha : a < 16384
          · rw [if_pos ha] at hput
            have d1 : ((a : Int) < 16384) = True := eq_true (by omega)
            have wa1 := place_hi (a := a) (by omega)
            have wa2 := place_lo (a := a)
            simp (config := { dsimp := false, maxSteps := 10000000 }) (disch := omega) only [go_sem, reduceIte, Nat.reduceEqDiff, reduceCtorEq, Nat.reduceAdd, Nat.reduceMul, Int.reduceToNat, Int.reduceLE, Int.reduceLT, Int.reduceEq, Int.reduceNe, Nat.reduceLeDiff, Int.reducePow, Nat.reducePow, Nat.reduceLT, Nat.reduceSub, Nat.reduceMod, Nat.reduceDiv, slot_neg, slot_pos, T.ag_54, T.ag_9, T.eb_32, T.es_59, T.ez_32, T.fo_56_0, T.gf_24, T.gf_34, T.ib_25, T.ib_3, T.ib_5, T.ib_53, T.ib_54, T.ii_3, T.ii_32, T.ii_5, T.ii_59, T.ii_9, T.ip_25, T.ip_3, T.ip_5, T.ip_53, T.ip_54, T.mt_54, T.s8_3, T.s8_32, T.s8_5, T.s8_59, T.s8_9, T.sl_3, T.sl_32, T.sl_5, T.sl_59, T.sl_9, T.st_3, T.st_32, T.st_5, T.st_59, T.st_9, T.un_3, T.un_32, T.un_5, T.un_59, T.un_9, T.zv_3, q0, q1, q8, q34, q35, hp3, hm3, hfe, d1, how.1, how.2]
            rw [wa1, wa2]
            refine app_own (E := u8E) (ns := [UInt8.ofNat (192 + a / 256), UInt8.ofNat (a % 256)]) (hO3.upd (Upd.alloc _ _ []) (by simp)) rfl rfl rfl (by simp only [List.length_cons, List.length_nil]; omega) fun u5 H5 D5 hO5 hU5 hD5 => ?_
            have ho5 := hO5.row.one
            simp (config := { dsimp := false, maxSteps := 10000000 }) (disch := omega) only [go_sem, reduceIte, Nat.reduceEqDiff, reduceCtorEq, Nat.reduceAdd, Nat.reduceMul, Int.reduceToNat, Int.reduceLE, Int.reduceLT, Int.reduceEq, Int.reduceNe, Nat.reduceLeDiff, Int.reducePow, Nat.reducePow, Nat.reduceLT, Nat.reduceSub, Nat.reduceMod, Nat.reduceDiv, slot_neg, slot_pos, T.ag_54, T.ag_9, T.eb_32, T.es_59, T.ez_32, T.fo_56_0, T.gf_24, T.gf_34, T.ib_25, T.ib_3, T.ib_5, T.ib_53, T.ib_54, T.ii_3, T.ii_32, T.ii_5, T.ii_59, T.ii_9, T.ip_25, T.ip_3, T.ip_5, T.ip_53, T.ip_54, T.mt_54, T.s8_3, T.s8_32, T.s8_5, T.s8_59, T.s8_9, T.sl_3, T.sl_32, T.sl_5, T.sl_59, T.sl_9, T.st_3, T.st_32, T.st_5, T.st_59, T.st_9, T.un_3, T.un_32, T.un_5, T.un_59, T.un_9, T.zv_3, ho5.1, ho5.2]
            have n5 : H4.next + 1 ≤ H5.next := hU5.1
            have k5 : ∀ k, k < H4.next → k ∉ D2 → H5.get k = H4.get k := fun k h8 h9 => (hU5.2 k (Nat.lt_succ_of_lt h8) h9).trans (by rw [get_alloc, if_neg (by omega)])
            rw [hput]
            refine ⟨u5, D5, [id], rfl, ⟨by omega, .inr ⟨id, cl2, l2, rfl, (k5 p hpn3 pD2).trans hp3, by omega, hidp, (k5 id hid3 idD2).trans hm3, rfl⟩⟩, hO5, fun d h9 => ?_, by simpa using hid, ?_⟩
            · rcases hD5 d h9 with h8 | h8
              · exact ⟨(hD3 d h8).1, by simp; exact (hD3 d h8).2.2.1⟩
              · have h7 : H4.next + 1 ≤ d := h8
                exact ⟨(newD d (by omega)).1, by simp; omega⟩
            · refine (hU3.trans (Upd.alloc _ _ []) (by simp)).trans hU5 fun d h9 => ?_
              rcases (hD3 d h9).1 with h8 | h8
              · left; simp [h8]
              · exact .inr h8
          · rw [if_neg ha] at hput
            have d1 : ((a : Int) < 16384) = False := eq_false (by omega)
            simp (config := { dsimp := false, maxSteps := 10000000 }) (disch := omega) only [go_sem, reduceIte, Nat.reduceEqDiff, reduceCtorEq, Nat.reduceAdd, Nat.reduceMul, Int.reduceToNat, Int.reduceLE, Int.reduceLT, Int.reduceEq, Int.reduceNe, Nat.reduceLeDiff, Int.reducePow, Nat.reducePow, Nat.reduceLT, Nat.reduceSub, Nat.reduceMod, Nat.reduceDiv, slot_neg, slot_pos, T.ag_54, T.ag_9, T.eb_32, T.es_59, T.ez_32, T.fo_56_0, T.gf_24, T.gf_34, T.ib_25, T.ib_3, T.ib_5, T.ib_53, T.ib_54, T.ii_3, T.ii_32, T.ii_5, T.ii_59, T.ii_9, T.ip_25, T.ip_3, T.ip_5, T.ip_53, T.ip_54, T.mt_54, T.s8_3, T.s8_32, T.s8_5, T.s8_59, T.s8_9, T.sl_3, T.sl_32, T.sl_5, T.sl_59, T.sl_9, T.st_3, T.st_32, T.st_5, T.st_59, T.st_9, T.un_3, T.un_32, T.un_5, T.un_59, T.un_9, T.zv_3, q0, q1, q8, q34, q35, hp3, hm3, hfe, d1, how.1, how.2]
            have hwm := hO3.row.one
            refine draw_plan D2 (.takeS 1 (.takeS 2 (.takeS 3 (.takeS 4 (.takeS 5 (.takeS 6 (.take 0 (.take 9 (.take 10 (.take 11 (.take 12 (.alt 7 (.alt 8 (.alt 13 (.takeS 14 .done) .stop) .stop) .stop)))))))))))) hm (by kernel_rfl) (by kernel_rfl) ?_
            simp (config := { dsimp := false, maxSteps := 10000000 }) (disch := omega) only [go_sem, reduceIte, Nat.reduceEqDiff, reduceCtorEq, Nat.reduceAdd, Nat.reduceMul, Int.reduceToNat, Int.reduceLE, Int.reduceLT, Int.reduceEq, Int.reduceNe, Nat.reduceLeDiff, Int.reducePow, Nat.reducePow, Nat.reduceLT, Nat.reduceSub, Nat.reduceMod, Nat.reduceDiv, slot_neg, slot_pos, T.ag_54, T.ag_9, T.eb_32, T.es_59, T.ez_32, T.fo_56_0, T.gf_24, T.gf_34, T.ib_25, T.ib_3, T.ib_5, T.ib_53, T.ib_54, T.ii_3, T.ii_32, T.ii_5, T.ii_59, T.ii_9, T.ip_25, T.ip_3, T.ip_5, T.ip_53, T.ip_54, T.mt_54, T.s8_3, T.s8_32, T.s8_5, T.s8_59, T.s8_9, T.sl_3, T.sl_32, T.sl_5, T.sl_59, T.sl_9, T.st_3, T.st_32, T.st_5, T.st_59, T.st_9, T.un_3, T.un_32, T.un_5, T.un_59, T.un_9, T.zv_3, q0, q1, q8, q34, q35, hv', how.1, how.2, dq, hqn, hg, lock_live', lock_cells, lk_own, hcell, wp]
            refine ⟨by omega, by omega, app_own (E := u8E) (ns := [UInt8.ofNat pt.length]) ((hO3.maskW fun d hd9 => hd9).upd (Upd.alloc _ _ []) (by simp)) rfl rfl rfl (by simp only [List.length_singleton]; omega) fun u5 H5 D5 hO5 hU5 hD5 => ?_⟩
            have ho5 := hO5.row.one
            simp (config := { dsimp := false, maxSteps := 10000000 }) (disch := omega) only [go_sem, reduceIte, Nat.reduceEqDiff, reduceCtorEq, Nat.reduceAdd, Nat.reduceMul, Int.reduceToNat, Int.reduceLE, Int.reduceLT, Int.reduceEq, Int.reduceNe, Nat.reduceLeDiff, Int.reducePow, Nat.reducePow, Nat.reduceLT, Nat.reduceSub, Nat.reduceMod, Nat.reduceDiv, slot_neg, slot_pos, T.ag_54, T.ag_9, T.eb_32, T.es_59, T.ez_32, T.fo_56_0, T.gf_24, T.gf_34, T.ib_25, T.ib_3, T.ib_5, T.ib_53, T.ib_54, T.ii_3, T.ii_32, T.ii_5, T.ii_59, T.ii_9, T.ip_25, T.ip_3, T.ip_5, T.ip_53, T.ip_54, T.mt_54, T.s8_3, T.s8_32, T.s8_5, T.s8_59, T.s8_9, T.sl_3, T.sl_32, T.sl_5, T.sl_59, T.sl_9, T.st_3, T.st_32, T.st_5, T.st_59, T.st_9, T.un_3, T.un_32, T.un_5, T.un_59, T.un_9, T.zv_3, q0, q1, q8, q34, q35, hv', ho5.1, ho5.2, bc_one]
            refine app_own (E := u8E) (ns := pt) hO5 rfl (u8_flat pt).symm rfl (by simp only [List.length_append, List.length_singleton]; omega) fun u6 H6 D6 hO6 hU6 hD6 => ?_
            have ho6 := hO6.row.one
            simp (config := { dsimp := false, maxSteps := 10000000 }) (disch := omega) only [go_sem, reduceIte, Nat.reduceEqDiff, reduceCtorEq, Nat.reduceAdd, Nat.reduceMul, Int.reduceToNat, Int.reduceLE, Int.reduceLT, Int.reduceEq, Int.reduceNe, Nat.reduceLeDiff, Int.reducePow, Nat.reducePow, Nat.reduceLT, Nat.reduceSub, Nat.reduceMod, Nat.reduceDiv, slot_neg, slot_pos, T.ag_54, T.ag_9, T.eb_32, T.es_59, T.ez_32, T.fo_56_0, T.gf_24, T.gf_34, T.ib_25, T.ib_3, T.ib_5, T.ib_53, T.ib_54, T.ii_3, T.ii_32, T.ii_5, T.ii_59, T.ii_9, T.ip_25, T.ip_3, T.ip_5, T.ip_53, T.ip_54, T.mt_54, T.s8_3, T.s8_32, T.s8_5, T.s8_59, T.s8_9, T.sl_3, T.sl_32, T.sl_5, T.sl_59, T.sl_9, T.st_3, T.st_32, T.st_5, T.st_59, T.st_9, T.un_3, T.un_32, T.un_5, T.un_59, T.un_9, T.zv_3, q0, q1, q8, q34, q35, hv', ho6.1, ho6.2, wi]
            have n5 : H4.next + 1 ≤ H5.next := hU5.1
            have n6 := hU6.1
            have hD6w : ∀ d ∈ D6, d ∈ D2 ∨ H4.next ≤ d := fun d h9 => by
              rcases hD6 d h9 with h8 | h8
              · rcases hD5 d h8 with h7 | h7
                · exact .inl h7
                · have h7' : H4.next + 1 ≤ d := h7
                  right; omega
              · right; omega
            refine ⟨⟨i + 1, u6, D6, b2 ++ [UInt8.ofNat pt.length] ++ pt, l2, cl2, hil, by simp only [List.length_append, List.length_singleton]; omega, rfl, rfl, by rw [if_pos ⟨hpn3, pD2⟩]; exact hp3, by omega, by omega, by rw [if_pos ⟨hid3, idD2⟩]; exact hm3, hO6.unmaskW hD6w, ?_, fun d h9 => ?_, hput, hU3.unmask (by omega) fun d h9 => ?_⟩, by omega⟩
            · rw [← hv']
              exact hX3'.keep (by rw [next_unmask]; omega) fun d h9 => by rw [get_unmask, if_pos ⟨hEn d h9, fun h8 => (hD3 d h8).2.2.2 h9⟩]
            · rcases hD6w d h9 with h8 | h8
              · exact hD3 d h8
              · exact newD d h8
            · rcases (hD3 d h9).1 with h8 | h8
              · left; simp [h8]
              · exact .inr h8
        | none =>
          rw [hf] at hfe hput
          dsimp only at hfe hput
          simp (config := { dsimp := false, maxSteps := 10000000 }) (disch := omega) only [go_sem, reduceIte, Nat.reduceEqDiff, reduceCtorEq, Nat.reduceAdd, Nat.reduceMul, Int.reduceToNat, Int.reduceLE, Int.reduceLT, Int.reduceEq, Int.reduceNe, Nat.reduceLeDiff, Int.reducePow, Nat.reducePow, Nat.reduceLT, Nat.reduceSub, Nat.reduceMod, Nat.reduceDiv, slot_neg, slot_pos, T.ag_54, T.ag_9, T.eb_32, T.es_59, T.ez_32, T.fo_56_0, T.gf_24, T.gf_34, T.ib_25, T.ib_3, T.ib_5, T.ib_53, T.ib_54, T.ii_3, T.ii_32, T.ii_5, T.ii_59, T.ii_9, T.ip_25, T.ip_3, T.ip_5, T.ip_53, T.ip_54, T.mt_54, T.s8_3, T.s8_32, T.s8_5, T.s8_59, T.s8_9, T.sl_3, T.sl_32, T.sl_5, T.sl_59, T.sl_9, T.st_3, T.st_32, T.st_5, T.st_59, T.st_9, T.un_3, T.un_32, T.un_5, T.un_59, T.un_9, T.zv_3, q0, q1, q8, q34, q35, hp3, hm3, hfe, how.1, how.2, len_row hO3]
          obtain ⟨H5_, hH5⟩ : ∃ H5_, H4.put id (.live (.map (entP l2 ++ [(.string (str key), .int .i64 b2.length, cl2)]) (cl2 + 1) .own)) = H5_ := ⟨_, rfl⟩
          have u45 : Upd H4 H5_ [id] := by rw [← hH5]; exact (Upd.refl _ _).put (.inl (by simp))
          have hm5 : H5_.get id = .live (.map (entP (l2 ++ [(key, b2.length, cl2)])) (cl2 + 1) .own) := by rw [← hH5, get_put, if_pos rfl]; unfold entP; rw [List.map_append]; rfl
          have n45 : H5_.next = H4.next := by rw [← hH5]; rfl
          have hp5 : H5_.get p = .live (.cells [.map (some id)] .own) := (u45.2 p hpn3 (by simp; exact fun e => hidp e.symm)).trans hp3
          have hg5 : H5_.get q = .live (.cells vs .own) := (u45.2 q hqn (by simp; exact fun e => hidE (by rw [hE3, e]; simp))).trans hg
          have hqn5 : q < H5_.next := by omega
          have hO5_ : OwnRow u8E H5_ w D2 b2 := hO3.upd u45 fun d h9 => by simp; exact (hD3 d h9).2.2.1
          have hX5 : OwnRow tE H5_ x E ps := hX3'.upd u45 fun d h9 => by simp; exact fun e => hidE (e ▸ h9)
          have hU5_ : Upd h H5_ (p :: M ++ D) := hU3.trans u45 fun d h9 => by simp at h9; subst h9; rcases hid with h8 | h8; left; simp [h8]; exact .inr h8
          rw [hH5]
          clear hH5
          have hwm := hO5_.row.one
          refine draw_plan D2 (.takeS 1 (.takeS 2 (.takeS 3 (.takeS 4 (.takeS 5 (.takeS 6 (.take 0 (.take 9 (.take 10 (.take 11 (.take 12 (.alt 7 (.alt 8 (.alt 13 (.takeS 14 .done) .stop) .stop) .stop)))))))))))) hm (by kernel_rfl) (by kernel_rfl) ?_
          simp (config := { dsimp := false, maxSteps := 10000000 }) (disch := omega) only [go_sem, reduceIte, Nat.reduceEqDiff, reduceCtorEq, Nat.reduceAdd, Nat.reduceMul, Int.reduceToNat, Int.reduceLE, Int.reduceLT, Int.reduceEq, Int.reduceNe, Nat.reduceLeDiff, Int.reducePow, Nat.reducePow, Nat.reduceLT, Nat.reduceSub, Nat.reduceMod, Nat.reduceDiv, slot_neg, slot_pos, T.ag_54, T.ag_9, T.eb_32, T.es_59, T.ez_32, T.fo_56_0, T.gf_24, T.gf_34, T.ib_25, T.ib_3, T.ib_5, T.ib_53, T.ib_54, T.ii_3, T.ii_32, T.ii_5, T.ii_59, T.ii_9, T.ip_25, T.ip_3, T.ip_5, T.ip_53, T.ip_54, T.mt_54, T.s8_3, T.s8_32, T.s8_5, T.s8_59, T.s8_9, T.sl_3, T.sl_32, T.sl_5, T.sl_59, T.sl_9, T.st_3, T.st_32, T.st_5, T.st_59, T.st_9, T.un_3, T.un_32, T.un_5, T.un_59, T.un_9, T.zv_3, q0, q1, q8, q34, q35, hv', how.1, how.2, dq, hqn5, hg5, lock_live', lock_cells, lk_own, hcell, wp]
          refine ⟨by omega, by omega, app_own (E := u8E) (ns := [UInt8.ofNat pt.length]) ((hO5_.maskW fun d hd9 => hd9).upd (Upd.alloc _ _ []) (by simp)) rfl rfl rfl (by simp only [List.length_singleton]; omega) fun u5 H7 D5 hO5 hU5 hD5 => ?_⟩
          have ho5 := hO5.row.one
          simp (config := { dsimp := false, maxSteps := 10000000 }) (disch := omega) only [go_sem, reduceIte, Nat.reduceEqDiff, reduceCtorEq, Nat.reduceAdd, Nat.reduceMul, Int.reduceToNat, Int.reduceLE, Int.reduceLT, Int.reduceEq, Int.reduceNe, Nat.reduceLeDiff, Int.reducePow, Nat.reducePow, Nat.reduceLT, Nat.reduceSub, Nat.reduceMod, Nat.reduceDiv, slot_neg, slot_pos, T.ag_54, T.ag_9, T.eb_32, T.es_59, T.ez_32, T.fo_56_0, T.gf_24, T.gf_34, T.ib_25, T.ib_3, T.ib_5, T.ib_53, T.ib_54, T.ii_3, T.ii_32, T.ii_5, T.ii_59, T.ii_9, T.ip_25, T.ip_3, T.ip_5, T.ip_53, T.ip_54, T.mt_54, T.s8_3, T.s8_32, T.s8_5, T.s8_59, T.s8_9, T.sl_3, T.sl_32, T.sl_5, T.sl_59, T.sl_9, T.st_3, T.st_32, T.st_5, T.st_59, T.st_9, T.un_3, T.un_32, T.un_5, T.un_59, T.un_9, T.zv_3, q0, q1, q8, q34, q35, hv', ho5.1, ho5.2, bc_one]
          refine app_own (E := u8E) (ns := pt) hO5 rfl (u8_flat pt).symm rfl (by simp only [List.length_append, List.length_singleton]; omega) fun u6 H6 D6 hO6 hU6 hD6 => ?_
          have ho6 := hO6.row.one
          simp (config := { dsimp := false, maxSteps := 10000000 }) (disch := omega) only [go_sem, reduceIte, Nat.reduceEqDiff, reduceCtorEq, Nat.reduceAdd, Nat.reduceMul, Int.reduceToNat, Int.reduceLE, Int.reduceLT, Int.reduceEq, Int.reduceNe, Nat.reduceLeDiff, Int.reducePow, Nat.reducePow, Nat.reduceLT, Nat.reduceSub, Nat.reduceMod, Nat.reduceDiv, slot_neg, slot_pos, T.ag_54, T.ag_9, T.eb_32, T.es_59, T.ez_32, T.fo_56_0, T.gf_24, T.gf_34, T.ib_25, T.ib_3, T.ib_5, T.ib_53, T.ib_54, T.ii_3, T.ii_32, T.ii_5, T.ii_59, T.ii_9, T.ip_25, T.ip_3, T.ip_5, T.ip_53, T.ip_54, T.mt_54, T.s8_3, T.s8_32, T.s8_5, T.s8_59, T.s8_9, T.sl_3, T.sl_32, T.sl_5, T.sl_59, T.sl_9, T.st_3, T.st_32, T.st_5, T.st_59, T.st_9, T.un_3, T.un_32, T.un_5, T.un_59, T.un_9, T.zv_3, q0, q1, q8, q34, q35, hv', ho6.1, ho6.2, wi]
          have n5 : H5_.next + 1 ≤ H7.next := hU5.1
          have n6 := hU6.1
          have hD6w : ∀ d ∈ D6, d ∈ D2 ∨ H5_.next ≤ d := fun d h9 => by
            rcases hD6 d h9 with h8 | h8
            · rcases hD5 d h8 with h7 | h7
              · exact .inl h7
              · have h7' : H5_.next + 1 ≤ d := h7
                right; omega
            · right; omega
          refine ⟨⟨i + 1, u6, D6, b2 ++ [UInt8.ofNat pt.length] ++ pt, l2 ++ [(key, b2.length, cl2)], cl2 + 1, hil, by simp only [List.length_append, List.length_singleton]; omega, rfl, rfl, by rw [if_pos ⟨by omega, pD2⟩]; exact hp5, by omega, by omega, by rw [if_pos ⟨by omega, idD2⟩]; exact hm5, hO6.unmaskW hD6w, ?_, fun d h9 => ?_, by rw [hput, seesP_add], hU5_.unmask (by omega) fun d h9 => ?_⟩, by omega⟩
          · rw [← hv']
            exact hX5.keep (by rw [next_unmask]; omega) fun d h9 => by rw [get_unmask, if_pos ⟨by have := hEn d h9; omega, fun h8 => (hD3 d h8).2.2.2 h9⟩]
          · rcases hD6w d h9 with h8 | h8
            · exact hD3 d h8
            · exact newD d (by omega)
          · rcases (hD3 d h9).1 with h8 | h8
            · left; simp [h8]
            · exact .inr h8
      · obtain rfl : i = ps.length := by omega
        have c1 : ((ps.length : Int) < (ps.length : Int)) = False := eq_false (by omega)
        rw [List.drop_length, putP] at hput
        simp (config := { dsimp := false, maxSteps := 10000000 }) (disch := omega) only [go_sem, reduceIte, Nat.reduceEqDiff, reduceCtorEq, Nat.reduceAdd, Nat.reduceMul, Int.reduceToNat, Int.reduceLE, Int.reduceLT, Int.reduceEq, Int.reduceNe, Nat.reduceLeDiff, Int.reducePow, Nat.reducePow, Nat.reduceLT, Nat.reduceSub, Nat.reduceMod, Nat.reduceDiv, slot_neg, slot_pos, T.ag_54, T.ag_9, T.eb_32, T.es_59, T.ez_32, T.fo_56_0, T.gf_24, T.gf_34, T.ib_25, T.ib_3, T.ib_5, T.ib_53, T.ib_54, T.ii_3, T.ii_32, T.ii_5, T.ii_59, T.ii_9, T.ip_25, T.ip_3, T.ip_5, T.ip_53, T.ip_54, T.mt_54, T.s8_3, T.s8_32, T.s8_5, T.s8_59, T.s8_9, T.sl_3, T.sl_32, T.sl_5, T.sl_59, T.sl_9, T.st_3, T.st_32, T.st_5, T.st_59, T.st_9, T.un_3, T.un_32, T.un_5, T.un_59, T.un_9, T.zv_3, q0, q1, q8, q34, q35, c1, how.1, how.2]
        have pD2 : p ∉ D2 := fun hh => (hD3 p hh).2.1 rfl
        have idD2 : id ∉ D2 := fun hh => (hD3 id hh).2.2.1 rfl
        have hn3 := hU3.1
        refine app_own (E := u8E) (ns := [0]) (hO3.upd (Upd.alloc _ _ []) (by simp)) rfl rfl rfl (by simp only [List.length_singleton]; omega) fun u5 H5 D5 hO5 hU5 hD5 => ?_
        have ho5 := hO5.row.one
        simp (config := { dsimp := false, maxSteps := 10000000 }) (disch := omega) only [go_sem, reduceIte, Nat.reduceEqDiff, reduceCtorEq, Nat.reduceAdd, Nat.reduceMul, Int.reduceToNat, Int.reduceLE, Int.reduceLT, Int.reduceEq, Int.reduceNe, Nat.reduceLeDiff, Int.reducePow, Nat.reducePow, Nat.reduceLT, Nat.reduceSub, Nat.reduceMod, Nat.reduceDiv, slot_neg, slot_pos, T.ag_54, T.ag_9, T.eb_32, T.es_59, T.ez_32, T.fo_56_0, T.gf_24, T.gf_34, T.ib_25, T.ib_3, T.ib_5, T.ib_53, T.ib_54, T.ii_3, T.ii_32, T.ii_5, T.ii_59, T.ii_9, T.ip_25, T.ip_3, T.ip_5, T.ip_53, T.ip_54, T.mt_54, T.s8_3, T.s8_32, T.s8_5, T.s8_59, T.s8_9, T.sl_3, T.sl_32, T.sl_5, T.sl_59, T.sl_9, T.st_3, T.st_32, T.st_5, T.st_59, T.st_9, T.un_3, T.un_32, T.un_5, T.un_59, T.un_9, T.zv_3, ho5.1, ho5.2]
        have n5 : H3.next + 1 ≤ H5.next := hU5.1
        have k5 : ∀ k, k < H3.next → k ∉ D2 → H5.get k = H3.get k := fun k h8 h9 => (hU5.2 k (Nat.lt_succ_of_lt h8) h9).trans (by rw [get_alloc, if_neg (by omega)])
        rw [hput]
        refine ⟨u5, D5, [id], rfl, ⟨by omega, .inr ⟨id, cl2, l2, rfl, (k5 p hpn3 pD2).trans hp3, by omega, hidp, (k5 id hid3 idD2).trans hm3, rfl⟩⟩, hO5, fun d h9 => ?_, by simpa using hid, ?_⟩
        · rcases hD5 d h9 with h8 | h8
          · exact ⟨(hD3 d h8).1, by simp; exact (hD3 d h8).2.2.1⟩
          · have h7 : H3.next + 1 ≤ d := h8
            exact ⟨.inr (by omega), by simp; omega⟩
        · refine (hU3.trans (Upd.alloc _ _ []) (by simp)).trans hU5 fun d h9 => ?_
          rcases (hD3 d h9).1 with h8 | h8
          · left; simp [h8]
          · exact .inr h8
end Ph
