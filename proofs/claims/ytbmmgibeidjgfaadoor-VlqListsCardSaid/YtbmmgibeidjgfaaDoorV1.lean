import Derived.Test.YtbmmgibeidjgfaaDoorV0
set_option maxRecDepth 100000
set_option maxHeartbeats 4000000
set_option linter.unusedSimpArgs false
set_option linter.unusedVariables false
namespace Ph
open Go Go.Proofs
attribute [local irreducible] Value.cells
attribute [local go_sem ↓] y_move y_assign y_pick y_nil y_bin y_un y_fa y_field y_ext y_ia y_ix y_slice y_build y_mf y_load y_len y_min y_max y_conv y_bs y_mk y_alloc y_box y_store y_clear y_app y_callf y_callt s_move s_assign s_pick s_nil s_bin s_un s_fa s_field s_ext s_ia s_ix s_slice s_conv s_build s_bs s_mf s_alloc s_box s_load s_store s_len s_clear s_min s_max s_app s_call q_call q_move q_assign q_pick q_nil q_bin q_un q_fa q_field q_ext q_ia q_ix q_slice q_conv q_build q_mf q_load q_len q_min q_max l_nil l_move l_assign l_pick l_nilc l_bin l_un l_fa l_field l_ext l_ia l_ix l_slice l_conv l_build l_mf l_load l_len l_min l_max l_call put_eq putN_eq o_nil o_plain o_gate v_nil v_plain v_gate vc_skip vc_region vc_seq vc_cond vc_block vc_loop vc_rf vc_exit vc_ret blk_normal blk_ret blk_exit on_normal on_ret on_exit vc_drawn draw_q s_mk l_bs l_mk l_alloc l_box l_store l_app l_clear pl_done pl_takeS pl_take pl_alt pl_stop one_plain one_gate
attribute [local go_sem] clear_nil clear_sl onAgg_a onTuple_t onFn_f onFn_y onFunc_f c_int c_nil c_sl c_str sl_sl sl_nil sl_str ix_str ix_agg n_nil n_sl n_str app_eq k_nil k_sl len_sl len_str upd_some upd_none ev_tmp ev_const ev_func rd_some gdst_eq otmp_t otmp_c get_put get_alloc next_put next_alloc get_app next_app init_a resV1 resV2 onPtr_ptr onBool_b onInt_i onSlice_s onSome_s onCells_c lett_eq gate_tt gate_tf gate_ff gate_ft gate_dt gate_df also_eq bin un minmax io_none io_some bo_none bo_some partOf List.getElem?_cons_zero List.getElem?_cons_succ List.getElem?_toArray Option.map_some Option.map_none Option.bind_some ne_eq not_true_eq_false not_false_eq_true false_implies true_implies and_true true_and and_self Bool.false_eq_true Nat.zero_add Nat.add_zero List.size_toArray List.length_cons List.length_nil List.map_toArray List.map_cons List.map_nil Array.getD_eq_getD_getElem? Option.getD_some Bool.not_true Bool.not_false Bool.not_eq_true Option.isNone_some Option.isNone_none List.append_toArray List.append_nil List.nil_append List.cons_append decide_true decide_false in_nil in_cons Bool.and_false Bool.and_true Bool.or_false Bool.true_or Bool.false_or get_mask next_mask get_unmask next_unmask ac_move ac_assign ac_pick ac_nil ac_bin ac_un ac_fa ac_field ac_ext ac_ia ac_ix ac_slice ac_build ac_mf ac_call ac_load ac_conv accP_p accS_s accS_n accS_i accS_t fixed_ro fixed_lock fixed_own get_ro next_ro lock_live' lock_cells List.mem_cons List.not_mem_nil or_false false_or or_true true_or and_false false_and IntKind.bits Int.natCast_zero Int.natCast_one size_str data_str list_str mk_str ext_str app_str bytes_str w_byte w_byteu Int.toNat_natCast Int.toNat_zero Int.toNat_one Nat.sub_zero ge_iff_le gt_iff_lt Nat.le_refl Int.le_refl List.drop_zero Int.ofNat_eq_natCast Int.natCast_nonneg Int.sub_zero oc_int oc_bool oc_str oc_ptr oc_sl oc_map oc_func List.set_cons_zero List.set_cons_succ Nat.mul_one List.all_cons List.all_nil Bool.and_self res_nil res_tmp res_cell tup_one tup_two tup_nil fill_nil repl_zero cells_agg List.append_eq List.toList_toArray Nat.zero_mul Nat.one_mul repl_one repl_two onSome_build fill_cons onSome_lit splice_eq cells_int cells_bool cells_str cells_ptr cells_sl cells_map cells_func loadK_n loadK_s load_k storeK_n storeK_s store_k all_arr List.take_zero List.take_succ_cons List.drop_succ_cons List.take_nil List.drop_nil lk_own lk_ro lk_lock lk_lk fixed_lk gate_nt gate_nf gate3_b gate3_u undef Bool.true_and Bool.false_and nx_l nx_r nx_lt put_put resV0
/-! Numbers of layer 7: what a number's bytes are; the tables; rows of bytes. -/
def lowS (n : Nat) : Nat → List UInt8
  | 0 => []
  | k + 1 => UInt8.ofNat (n / 256 ^ k) :: lowS n k
theorem lowS_len (n : Nat) : ∀ k, (lowS n k).length = k
  | 0 => rfl
  | k + 1 => by rw [lowS, List.length_cons, lowS_len n k]
theorem or_add {x y k : Nat} (hy : y < 2 ^ k) (hx : 2 ^ k ∣ x) : x ||| y = x + y := by
  obtain ⟨z, rfl⟩ := hx
  rw [Nat.mul_comm, ← Nat.shiftLeft_eq, Nat.shiftLeft_add_eq_or_of_lt hy]
def vsize (l : List UInt8) : Nat := 2 ^ ((l.getD 0 0).toNat / 64)
def vnum (l : List UInt8) (k : Nat) : Nat := ((l.take k).drop 1).foldl (fun n b => n * 256 + b.toNat) ((l.getD 0 0).toNat % 64)
def vget (l : List UInt8) : Nat × Nat × Int := if l.length = 0 ∨ l.length < vsize l then (0, 0, 3) else (vnum l (vsize l), vsize l, 0)
theorem fold_lt : ∀ (m : List UInt8) (n : Nat), m.foldl (fun n b => n * 256 + b.toNat) n < (n + 1) * 256 ^ m.length
  | [], n => by simp
  | b :: m, n => by
    have h := fold_lt m (n * 256 + b.toNat)
    have hb := b.toNat_lt
    simp only [List.foldl_cons, List.length_cons, Nat.pow_succ]
    refine Nat.lt_of_lt_of_le h ?_
    rw [Nat.mul_comm (256 ^ m.length) 256, ← Nat.mul_assoc]
    exact Nat.mul_le_mul_right _ (by omega)
theorem vnum_lt (l : List UInt8) (k : Nat) (hk : 1 ≤ k) : vnum l k < 64 * 256 ^ (k - 1) := by
  have h := fold_lt ((l.take k).drop 1) ((l.getD 0 0).toNat % 64)
  refine Nat.lt_of_lt_of_le h ?_
  refine Nat.mul_le_mul (by omega) (Nat.pow_le_pow_right (by omega) ?_)
  simp; omega
theorem vnum_succ {l : List UInt8} {k : Nat} (h1 : 1 ≤ k) (hk : k < l.length) : vnum l (k + 1) = vnum l k * 256 + (l.getD k 0).toNat := by
  simp only [vnum]
  rw [take_step hk, List.drop_append_of_le_length (by simp; omega), List.foldl_append]; rfl
theorem vsize_le (l : List UInt8) : vsize l ≤ 8 ∧ 1 ≤ vsize l := by
  have := (l.getD 0 0).toNat_lt
  unfold vsize
  have h : (l.getD 0 0).toNat / 64 ≤ 3 := by omega
  generalize (l.getD 0 0).toNat / 64 = q at h ⊢
  match q, h with
  | 0, _ => decide
  | 1, _ => decide
  | 2, _ => decide
  | 3, _ => decide
theorem shr6 {b : UInt8} : (b.toNat : Int).fdiv (2 ^ min 6 8) = ((b.toNat / 64 : Nat) : Int) := by
  rw [Int.fdiv_eq_ediv_of_nonneg _ (by decide)]; rfl
theorem and63 {b : UInt8} : IntKind.u8.wrap ((BitVec.ofInt 8 (b.toNat : Int) &&& BitVec.ofInt 8 63).toNat : Int) = ((b.toNat % 64 : Nat) : Int) := by
  have := b.toNat_lt
  have e : (BitVec.ofInt 8 (b.toNat : Int) &&& BitVec.ofInt 8 63).toNat = b.toNat % 64 := by
    rw [BitVec.toNat_and]
    have e1 : (BitVec.ofInt 8 (b.toNat : Int)).toNat = b.toNat := by simp
    have e2 : (BitVec.ofInt 8 63).toNat = 2 ^ 6 - 1 := by decide
    rw [e1, e2, Nat.and_two_pow_sub_one_eq_mod]
  rw [e, u8wrap] <;> omega
theorem shl1 {l : List UInt8} : IntKind.i64.wrap (1 * 2 ^ min ((l.getD 0 0).toNat / 64) 64) = (vsize l : Nat) := by
  have hb := (l.getD 0 0).toNat_lt
  have h := vsize_le l
  have e : min ((l.getD 0 0).toNat / 64) 64 = (l.getD 0 0).toNat / 64 := by omega
  rw [e]
  have e2 : (1 * 2 ^ ((l.getD 0 0).toNat / 64) : Int) = ((vsize l : Nat) : Int) := by simp [vsize]
  rw [e2, i64wrap] <;> omega
theorem or8 {n : Nat} {b : UInt8} (hn : n < 64 * 256 ^ 6) : IntKind.u64.wrap ((BitVec.ofInt 64 (IntKind.u64.wrap ((n : Int) * 2 ^ min 8 64)) ||| BitVec.ofInt 64 (b.toNat : Int)).toNat : Int) = ((n * 256 + b.toNat : Nat) : Int) := by
  have hb := b.toNat_lt
  have e0 : (2 ^ min 8 64 : Int) = 256 := by decide
  rw [e0, u64wrap (x := (n : Int) * 256) (by omega) (by omega)]
  have e : (BitVec.ofInt 64 ((n : Int) * 256) ||| BitVec.ofInt 64 (b.toNat : Int)).toNat = n * 256 + b.toNat := by
    rw [BitVec.toNat_or]
    have e1 : (BitVec.ofInt 64 ((n : Int) * 256)).toNat = n * 256 := by
      have : ((n : Int) * 256) = ((n * 256 : Nat) : Int) := by omega
      rw [this, BitVec.ofInt_natCast, BitVec.toNat_ofNat, Nat.mod_eq_of_lt (by omega)]
    have e2 : (BitVec.ofInt 64 (b.toNat : Int)).toNat = b.toNat := by
      rw [BitVec.ofInt_natCast, BitVec.toNat_ofNat, Nat.mod_eq_of_lt (by omega)]
    have e3 : n * 256 = n <<< 8 := by rw [Nat.shiftLeft_eq]
    rw [e1, e2, e3, ← Nat.shiftLeft_add_eq_or_of_lt (by omega)]
  rw [e, u64wrap] <;> omega
theorem VGet_ph (l : List UInt8) (hl : l.length < 9223372036854775807) (h : Heap) (v : Value) (hv : SlB h v l) : @CallsH Tryd.prog 15 #[v] h ⟨fun v _ => v = .tuple #[.int .u64 (vget l).1, .int .i64 (vget l).2.1, .int .i64 (vget l).2.2]⟩ := by
  rcases hv with ⟨rfl, rfl⟩ | ⟨p, o, vs, q, rfl, hp, hb, hlen⟩
  · (refine calls_of_vc [] hm Tryd.func15 rfl (ts := [2, 3, 4]) rfl (by kernel_rfl) (by simp) ?_; simp (config := { dsimp := false }) only [go_sem, reduceIte, Nat.reduceEqDiff, reduceCtorEq, Nat.reduceAdd, Nat.reduceMul, Int.reduceToNat, Int.reduceLE, Int.reduceLT, Int.reduceEq, Int.reduceNe, Nat.reduceLeDiff, Int.reducePow, Nat.reducePow, Nat.reduceLT, Nat.reduceSub, Nat.reduceMod, Nat.reduceDiv, T.ag_5, T.es_23, T.ib_27, T.ib_3, T.ib_5, T.ii_23, T.ii_27, T.ii_5, T.ip_27, T.ip_3, T.ip_5, T.s8_23, T.s8_27, T.s8_5, T.sl_23, T.sl_27, T.sl_5, T.st_23, T.st_27, T.st_5, T.un_23, T.un_27, T.un_5, init_a])
    rfl
  · rcases Nat.eq_zero_or_pos l.length with h0 | h0
    · have : l = [] := by simpa using h0
      subst this
      (refine calls_of_vc [] hm Tryd.func15 rfl (ts := [2, 3, 4]) rfl (by kernel_rfl) (by simp) ?_; simp (config := { dsimp := false }) only [go_sem, reduceIte, Nat.reduceEqDiff, reduceCtorEq, Nat.reduceAdd, Nat.reduceMul, Int.reduceToNat, Int.reduceLE, Int.reduceLT, Int.reduceEq, Int.reduceNe, Nat.reduceLeDiff, Int.reducePow, Nat.reducePow, Nat.reduceLT, Nat.reduceSub, Nat.reduceMod, Nat.reduceDiv, T.ag_5, T.es_23, T.ib_27, T.ib_3, T.ib_5, T.ii_23, T.ii_27, T.ii_5, T.ip_27, T.ip_3, T.ip_5, T.s8_23, T.s8_27, T.s8_5, T.sl_23, T.sl_27, T.sl_5, T.st_23, T.st_27, T.st_5, T.un_23, T.un_27, T.un_5, init_a, hp])
      rfl
    · have b0 := SlB.get hb h0
      simp only [Nat.add_zero] at b0
      have hn : ((l.length : Int) = 0) = False := eq_false (by omega)
      (refine calls_of_vc [] hm Tryd.func15 rfl (ts := [2, 3, 4]) rfl (by kernel_rfl) (by simp) ?_; simp (config := { dsimp := false }) only [go_sem, reduceIte, Nat.reduceEqDiff, reduceCtorEq, Nat.reduceAdd, Nat.reduceMul, Int.reduceToNat, Int.reduceLE, Int.reduceLT, Int.reduceEq, Int.reduceNe, Nat.reduceLeDiff, Int.reducePow, Nat.reducePow, Nat.reduceLT, Nat.reduceSub, Nat.reduceMod, Nat.reduceDiv, T.ag_5, T.es_23, T.ib_27, T.ib_3, T.ib_5, T.ii_23, T.ii_27, T.ii_5, T.ip_27, T.ip_3, T.ip_5, T.s8_23, T.s8_27, T.s8_5, T.sl_23, T.sl_27, T.sl_5, T.st_23, T.st_27, T.st_5, T.un_23, T.un_27, T.un_5, init_a, hp, b0, hn, shr6, shl1, and63])
      have hs := vsize_le l
      refine ⟨by omega, fun hlt => ?_, fun hge => ⟨by omega, by omega, ⟨by omega, by omega⟩, ?_⟩⟩
      · rw [vget, if_pos (by omega)]; rfl
      · refine loop_intro [] hm (fun r h' => h' = h ∧ ∃ i : Nat, i + 1 ≤ vsize l ∧ r 34 = .slice (some ⟨p, o + 1, none⟩) (vsize l - 1) 1 ∧ r 35 = .int .i64 ((vsize l - 1 : Nat) : Int) ∧ r 5 = .int .i64 (vsize l : Nat) ∧ r 6 = .int .u64 (vnum l (i + 1) : Nat) ∧ r 36 = .int .i64 (i : Nat)) (fun r _ => match r 36 with | .int _ i => 8 - i.toNat | _ => 0) ?_ ?_
        · have hv1 : vnum l 1 = (l.getD 0 0).toNat % 64 := by
            have : (l.take 1).drop 1 = [] := by simp
            simp only [vnum, this, List.foldl_nil]
          have e : ((vsize l : Int) - 1).toNat = vsize l - 1 := by omega
          refine ⟨rfl, 0, by omega, by simp [upd, e], by simp [upd, e], by simp [upd], ?_, by simp [upd]⟩
          have hw : IntKind.u64.wrap (((l.getD 0 0).toNat % 64 : Nat) : Int) = (((l.getD 0 0).toNat % 64 : Nat) : Int) := by rw [u64wrap] <;> omega
          show Value.int .u64 (IntKind.u64.wrap (IntKind.u8.wrap ((BitVec.ofInt 8 ((l.getD 0 0).toNat : Int) &&& BitVec.ofInt 8 63).toNat : Int))) = _
          rw [and63, hw, hv1]
        · rintro r h' ⟨rfl, i, g1, h1, h2, h3, h4, h5⟩
          by_cases hlt : i < vsize l - 1
          · have bi := SlB.get hb (n := i + 1) (by omega)
            have bi' : vs[o + 1 + i]? = some (.int .u8 ((l.getD (i + 1) 0).toNat : Int)) := by rw [← bi]; congr 1; omega
            have hlt' : ((i : Int) < ((vsize l - 1 : Nat) : Int)) = True := eq_true (by omega)
            have hn : vnum l (i + 1) < 64 * 256 ^ 6 := Nat.lt_of_lt_of_le (vnum_lt l (i + 1) (by omega)) (Nat.mul_le_mul_left _ (Nat.pow_le_pow_right (by omega) (by omega)))
            have e3 := or8 (b := l.getD (i + 1) 0) hn
            rw [← vnum_succ (by omega) (by omega)] at e3
            have e1 : IntKind.i64.wrap ((i : Int) + 1) = ((i + 1 : Nat) : Int) := by rw [i64wrap] <;> omega
            simp (config := { dsimp := false }) only [go_sem, reduceIte, Nat.reduceEqDiff, reduceCtorEq, Nat.reduceAdd, Nat.reduceMul, Int.reduceToNat, Int.reduceLE, Int.reduceLT, Int.reduceEq, Int.reduceNe, Nat.reduceLeDiff, Int.reducePow, Nat.reducePow, Nat.reduceLT, Nat.reduceSub, Nat.reduceMod, Nat.reduceDiv, T.ag_5, T.es_23, T.ib_27, T.ib_3, T.ib_5, T.ii_23, T.ii_27, T.ii_5, T.ip_27, T.ip_3, T.ip_5, T.s8_23, T.s8_27, T.s8_5, T.sl_23, T.sl_27, T.sl_5, T.st_23, T.st_27, T.st_5, T.un_23, T.un_27, T.un_5, h1, h2, h3, h4, h5, hp, bi', hlt', e3, e1, Nat.mul_one, decide_true]
            exact ⟨⟨i + 1, by omega, congrArg (Value.int .u64) e3, rfl⟩, by omega⟩
          · have hlt' : ((i : Int) < ((vsize l - 1 : Nat) : Int)) = False := eq_false (by omega)
            simp (config := { dsimp := false }) only [go_sem, reduceIte, Nat.reduceEqDiff, reduceCtorEq, Nat.reduceAdd, Nat.reduceMul, Int.reduceToNat, Int.reduceLE, Int.reduceLT, Int.reduceEq, Int.reduceNe, Nat.reduceLeDiff, Int.reducePow, Nat.reducePow, Nat.reduceLT, Nat.reduceSub, Nat.reduceMod, Nat.reduceDiv, T.ag_5, T.es_23, T.ib_27, T.ib_3, T.ib_5, T.ii_23, T.ii_27, T.ii_5, T.ip_27, T.ip_3, T.ip_5, T.s8_23, T.s8_27, T.s8_5, T.sl_23, T.sl_27, T.sl_5, T.st_23, T.st_27, T.st_5, T.un_23, T.un_27, T.un_5, h1, h2, h3, h4, h5, hlt', decide_false]
            have : i + 1 = vsize l := by omega
            rw [vget, if_neg (by omega), this]
def top (sz : Nat) : Nat := 64 * 256 ^ (sz - 1)
def vputS (n sz : Nat) : List UInt8 := lowS (n + lg sz * top sz) sz
def okSz (sz : Nat) : Prop := sz = 1 ∨ sz = 2 ∨ sz = 4 ∨ sz = 8
theorem u64or {x y : Nat} (k : Nat) (hy : y < 2 ^ k) (hx : 2 ^ k ∣ x) (hs : x + y < 18446744073709551616) : IntKind.u64.wrap ((BitVec.ofInt 64 (y : Int) ||| BitVec.ofInt 64 (x : Int)).toNat : Int) = ((x + y : Nat) : Int) := by
  have e1 : (BitVec.ofInt 64 (x : Int)).toNat = x := by rw [BitVec.ofInt_natCast, BitVec.toNat_ofNat, Nat.mod_eq_of_lt (by omega)]
  have e2 : (BitVec.ofInt 64 (y : Int)).toNat = y := by rw [BitVec.ofInt_natCast, BitVec.toNat_ofNat, Nat.mod_eq_of_lt (by omega)]
  rw [BitVec.toNat_or, e1, e2, Nat.or_comm, or_add hy hx, u64wrap] <;> omega
theorem byteAt' {n k : Nat} (hk : k ≤ 7) : IntKind.u8.wrap ((n : Int).fdiv (2 ^ min (8 * (k : Int)).toNat 64)) = ((UInt8.ofNat (n / 256 ^ k)).toNat : Int) := by
  have e : min (8 * (k : Int)).toNat 64 = 8 * k := by omega
  have e2 : (2 : Int) ^ (8 * k) = ((256 ^ k : Nat) : Int) := by rw [show (2 : Int) = ((2 : Nat) : Int) from rfl, ← Int.natCast_pow, Nat.pow_mul]
  rw [e, e2, Int.fdiv_eq_ediv_of_nonneg _ (Int.natCast_nonneg _), ← Int.natCast_ediv]
  simp only [IntKind.wrap, IntKind.bits, IntKind.signed]
  simp
def vsz (n : Nat) : Nat := if n < 64 then 1 else if n < 16384 then 2 else if n < 1073741824 then 4 else 8
theorem vsz_cases (n : Nat) : (vsz n = 1 ∧ n < 64) ∨ (vsz n = 2 ∧ 64 ≤ n ∧ n < 16384) ∨ (vsz n = 4 ∧ 16384 ≤ n ∧ n < 1073741824) ∨ (vsz n = 8 ∧ 1073741824 ≤ n) := by
  unfold vsz
  split
  · exact .inl ⟨rfl, by assumption⟩
  · split
    · exact .inr (.inl ⟨rfl, by omega, by assumption⟩)
    · split
      · exact .inr (.inr (.inl ⟨rfl, by omega, by assumption⟩))
      · exact .inr (.inr (.inr ⟨rfl, by omega⟩))
theorem top1 : top 1 = 64 := by decide
theorem top2 : top 2 = 16384 := by decide
theorem top4 : top 4 = 1073741824 := by decide
theorem top8 : top 8 = 4611686018427387904 := by decide
theorem vsz_ok (n : Nat) : okSz (vsz n) := by
  rcases vsz_cases n with ⟨e, _⟩ | ⟨e, _⟩ | ⟨e, _⟩ | ⟨e, _⟩ <;> rw [e] <;> simp [okSz]
theorem vsz_fit {n : Nat} (h : n < 4611686018427387904) : n < top (vsz n) := by
  rcases vsz_cases n with ⟨e, _⟩ | ⟨e, _⟩ | ⟨e, _⟩ | ⟨e, _⟩ <;> rw [e] <;> simp only [top1, top2, top4, top8] <;> omega
theorem vputS_len (n sz : Nat) : (vputS n sz).length = sz := lowS_len _ _
def u8E : Enc UInt8 := ⟨1, fun b => [.int .u8 (b.toNat : Int)], fun _ => rfl, fun _ => rfl⟩
theorem u8_flat (l : List UInt8) : u8E.flat l = bc l := by
  induction l with
  | nil => rfl
  | cons b l ih => rw [flat_cons, ih]; rfl
theorem RowIn.slb {h : Heap} {v : Value} {l : List UInt8} (hr : RowIn u8E h v l) : SlB h v l := by
  rcases hr with hr | ⟨q, off, vs, o, h1, h2, h3⟩
  · exact .inl hr
  · refine .inr ⟨q, off, vs, o, h1, h2, ?_, ?_⟩
    · have := h3.2
      rw [show u8E.k = 1 from rfl, Nat.mul_one, u8_flat] at this
      exact this
    · have := h3.1
      rw [show u8E.k = 1 from rfl, Nat.mul_one] at this
      exact this
theorem SlB.row {h : Heap} {v : Value} {l : List UInt8} (hs : SlB h v l) : RowIn u8E h v l := by
  rcases hs with hs | ⟨i, o, vs, q, h1, h2, h3, h4⟩
  · exact .inl hs
  · exact .inr ⟨i, o, vs, q, h1, h2, by rw [show u8E.k = 1 from rfl, Nat.mul_one]; exact h4, by rw [show u8E.k = 1 from rfl, Nat.mul_one, u8_flat]; exact h3⟩
theorem lowS_getD (n : Nat) : ∀ (k i : Nat), i < k → (lowS n k).getD i 0 = UInt8.ofNat (n / 256 ^ (k - 1 - i))
  | 0, _, h => by omega
  | k + 1, 0, _ => by simp [lowS]
  | k + 1, i + 1, h => by
    rw [lowS, List.getD_cons_succ, lowS_getD n k i (by omega)]
    congr 2; congr 1; omega
theorem low_fold (n : Nat) : ∀ (k m : Nat), (lowS n k).foldl (fun n b => n * 256 + b.toNat) m = m * 256 ^ k + n % 256 ^ k
  | 0, m => by simp [lowS, Nat.mod_one]
  | k + 1, m => by
    rw [lowS, List.foldl_cons, low_fold n k, UInt8.toNat_ofNat', show 2 ^ 8 = 256 from rfl, Nat.pow_succ, Nat.mod_mul (x := n) (a := 256 ^ k) (b := 256)]
    generalize n / 256 ^ k % 256 = a
    generalize n % 256 ^ k = b
    generalize 256 ^ k = p
    rw [Nat.add_mul, Nat.mul_assoc, Nat.mul_comm 256 p, Nat.mul_comm a p]
    omega
theorem vget_put {n sz : Nat} (hs : okSz sz) (hn : n < top sz) (X : List UInt8) : vget (vputS n sz ++ X) = (n, sz, 0) := by
  have hl : (vputS n sz).length = sz := vputS_len n sz
  have hpos : 0 < sz := by rcases hs with rfl | rfl | rfl | rfl <;> decide
  have h0 : ((vputS n sz ++ X).getD 0 0).toNat = lg sz * 64 + n / 256 ^ (sz - 1) := by
    have : (vputS n sz ++ X).getD 0 0 = (vputS n sz).getD 0 0 := by
      rw [List.getD_eq_getElem?_getD, List.getElem?_append_left (by omega), ← List.getD_eq_getElem?_getD]
    rw [this, vputS, lowS_getD _ _ _ hpos, UInt8.toNat_ofNat']
    rcases hs with rfl | rfl | rfl | rfl <;> simp only [top, lg] at hn ⊢ <;> simp at hn ⊢ <;> omega
  have hq : n / 256 ^ (sz - 1) < 64 := by
    rcases hs with rfl | rfl | rfl | rfl <;> simp only [top] at hn ⊢ <;> simp at hn ⊢ <;> omega
  have hv : vsize (vputS n sz ++ X) = sz := by
    unfold vsize
    rw [h0, show (lg sz * 64 + n / 256 ^ (sz - 1)) / 64 = lg sz from by generalize n / 256 ^ (sz - 1) = q at hq; omega]
    rcases hs with rfl | rfl | rfl | rfl <;> rfl
  unfold vget
  rw [hv, if_neg (by rw [List.length_append]; omega)]
  have hm : vnum (vputS n sz ++ X) sz = n := by
    unfold vnum
    rw [List.take_append_of_le_length (by omega), List.take_of_length_le (by omega), h0, show (lg sz * 64 + n / 256 ^ (sz - 1)) % 64 = n / 256 ^ (sz - 1) from by generalize n / 256 ^ (sz - 1) = q at hq; omega]
    obtain ⟨k, rfl⟩ : ∃ k, sz = k + 1 := ⟨sz - 1, by omega⟩
    rw [vputS, lowS, List.drop_succ_cons, List.drop_zero, low_fold]
    simp only [Nat.add_sub_cancel]
    have hd : (n + lg (k + 1) * top (k + 1)) % 256 ^ k = n % 256 ^ k := by
      rw [top, Nat.add_sub_cancel, ← Nat.mul_assoc, Nat.add_mul_mod_self_right]
    rw [hd, Nat.mul_comm]
    exact Nat.div_add_mod _ _
  rw [hm]
theorem vget_pre {n sz : Nat} (hs : okSz sz) (hn : n < top sz) (X : List UInt8) : (vputS n sz ++ X).drop sz = X := by
  rw [List.drop_append, vputS_len, Nat.sub_self, List.drop_zero, List.drop_of_length_le (by rw [vputS_len]; exact Nat.le_refl _), List.nil_append]
theorem ofNat_add (a m : Nat) : UInt8.ofNat (a + m * 256) = UInt8.ofNat a := by
  apply UInt8.toNat_inj.1
  rw [UInt8.toNat_ofNat', UInt8.toNat_ofNat']
  exact Nat.add_mul_mod_self_right ..
theorem low_add (n c k : Nat) : ∀ j, j ≤ k → lowS (n + c * 256 ^ k) j = lowS n j
  | 0, _ => rfl
  | j + 1, hj => by
    rw [lowS, lowS, low_add n c k j (by omega)]
    have e : (n + c * 256 ^ k) / 256 ^ j = n / 256 ^ j + c * 256 ^ (k - j) := by
      have : 256 ^ k = 256 ^ (k - j) * 256 ^ j := by rw [← Nat.pow_add]; congr 1; omega
      rw [this, ← Nat.mul_assoc, Nat.add_mul_div_right _ _ (Nat.pow_pos (by decide))]
    have e2 : c * 256 ^ (k - j) = (c * 256 ^ (k - j - 1)) * 256 := by
      rw [Nat.mul_assoc, ← Nat.pow_succ]; congr 2; omega
    rw [e, e2, ofNat_add]
theorem low_top (n c k : Nat) : lowS (n + c * (64 * 256 ^ k)) (k + 1) = UInt8.ofNat (n / 256 ^ k + 64 * c) :: lowS n k := by
  have e0 : n + c * (64 * 256 ^ k) = n + (64 * c) * 256 ^ k := by rw [Nat.mul_comm 64 c, Nat.mul_assoc]
  rw [lowS, e0, low_add n (64 * c) k k (Nat.le_refl _), Nat.add_mul_div_right _ _ (Nat.pow_pos (by decide))]
/-- the bytes, from behind -/
theorem low_set (n k i : Nat) : (List.replicate (i + 1) (0 : UInt8) ++ lowS n k).set i (UInt8.ofNat (n / 256 ^ k)) = List.replicate i 0 ++ lowS n (k + 1) := by
  rw [List.set_append, if_pos (by simp), List.replicate_succ', List.set_append, if_neg (by simp)]
  simp [lowS]
def catS (l : List Nat) : List UInt8 := l.flatMap fun n => vputS n (vsz n)
theorem cat_snoc (l : List Nat) (n : Nat) : catS (l ++ [n]) = catS l ++ vputS n (vsz n) := by simp [catS]
theorem vsz_le (n : Nat) : 1 ≤ vsz n ∧ vsz n ≤ 8 := by rcases vsz_ok n with e | e | e | e <;> rw [e] <;> decide
theorem cat_len (l : List Nat) : (catS l).length ≤ 8 * l.length := by
  induction l with
  | nil => simp [catS]
  | cons n l ih =>
    have e : catS (n :: l) = vputS n (vsz n) ++ catS l := by simp [catS]
    rw [e, List.length_append, vputS_len, List.length_cons]
    have := vsz_le n
    omega
/-- what stands from the i-th number on -/
theorem cat_drop {l : List Nat} {i : Nat} {n : Nat} (hx : l[i]? = some n) : (catS l).drop (catS (l.take i)).length = vputS n (vsz n) ++ catS (l.drop (i + 1)) := by
  have hi := List.getElem?_eq_some_iff.1 hx
  have e : l = l.take i ++ n :: l.drop (i + 1) := by
    conv => lhs; rw [← List.take_append_drop i l, List.drop_eq_getElem_cons hi.1, hi.2]
  have e2 : catS l = catS (l.take i) ++ (vputS n (vsz n) ++ catS (l.drop (i + 1))) := by
    conv => lhs; rw [e]
    simp [catS]
  rw [e2, List.drop_left]
end Ph
