import Derived.Test.YtlpbikgdffbplaaDoorP2
set_option maxRecDepth 100000
set_option maxHeartbeats 4000000
set_option linter.unusedSimpArgs false
set_option linter.unusedVariables false
namespace Ph
open Go Go.Proofs
attribute [local irreducible] Value.cells
attribute [local go_sem ↓] y_move y_assign y_pick y_nil y_bin y_un y_fa y_field y_ext y_ia y_ix y_slice y_build y_mf y_rg y_nx y_en y_mm y_lk y_mu y_del y_load y_len y_cap y_min y_max y_conv y_bs y_mk y_alloc y_box y_store y_clear y_app y_callf y_callt s_move s_assign s_pick s_nil s_bin s_un s_fa s_field s_ext s_ia s_ix s_slice s_conv s_build s_bs s_mf s_alloc s_box s_rg s_nx s_en s_mm s_lk s_mu s_del s_load s_store s_len s_clear s_cap s_min s_max s_app s_call q_call q_move q_assign q_pick q_nil q_bin q_un q_fa q_field q_ext q_ia q_ix q_slice q_conv q_build q_mf q_lk q_load q_len q_cap q_min q_max l_nil l_move l_assign l_pick l_nilc l_bin l_un l_fa l_field l_ext l_ia l_ix l_slice l_conv l_build l_mf l_lk l_load l_len l_cap l_min l_max l_call put_eq putN_eq o_nil o_plain o_gate v_nil v_plain v_gate vc_skip vc_region vc_seq vc_cond vc_block vc_loop vc_rf vc_exit vc_ret blk_normal blk_ret blk_exit on_normal on_ret on_exit vc_drawn draw_q s_mk l_bs l_mk l_rg l_nx l_en l_mm l_mu l_del l_alloc l_box l_store l_app l_clear pl_done pl_takeS pl_take pl_alt pl_stop one_plain one_gate
attribute [local go_sem] clear_nil clear_sl onAgg_a onTuple_t onFn_f onFn_y onFunc_f c_int c_nil c_sl c_str sl_sl sl_nil sl_str ix_str ix_agg n_nil n_sl n_str app_eq k_nil k_sl cap_n len_sl len_str len_mn len_m onMap_m onIter_i rg_n rg_m nx_p en_p lk_n lk_m up_m setM_n setM_s del_n del_m kt_s kt_i upd_some upd_none ev_tmp ev_const ev_func rd_some gdst_eq otmp_t otmp_c get_put get_alloc next_put next_alloc get_app next_app init_a resV1 resV2 onPtr_ptr onBool_b onInt_i onSlice_s onSome_s onCells_c lett_eq gate_tt gate_tf gate_ff gate_ft gate_dt gate_df also_eq bin un minmax io_none io_some bo_none bo_some partOf List.getElem?_cons_zero List.getElem?_cons_succ List.getElem?_toArray Option.map_some Option.map_none Option.bind_some ne_eq not_true_eq_false not_false_eq_true false_implies true_implies and_true true_and and_self Bool.false_eq_true Nat.zero_add Nat.add_zero List.size_toArray List.length_cons List.length_nil List.map_toArray List.map_cons List.map_nil Array.getD_eq_getD_getElem? Option.getD_some Bool.not_true Bool.not_false Bool.not_eq_true Option.isNone_some Option.isNone_none List.append_toArray List.append_nil List.nil_append List.cons_append decide_true decide_false in_nil in_cons Bool.and_false Bool.and_true Bool.or_false Bool.true_or Bool.false_or get_mask next_mask get_unmask next_unmask ac_move ac_assign ac_pick ac_nil ac_bin ac_un ac_fa ac_field ac_ext ac_ia ac_ix ac_slice ac_build ac_mf ac_call ac_len ac_lk ac_cap ac_min ac_max accM_m accM_n accM_s accM_t ac_load ac_conv accP_p accS_s accS_n accS_i accS_t fixed_ro fixed_lock fixed_own get_ro next_ro lock_live' lock_cells List.mem_cons List.not_mem_nil or_false false_or or_true true_or and_false false_and IntKind.bits Int.natCast_zero Int.natCast_one size_str data_str list_str mk_str ext_str app_str bytes_str w_byte w_byteu Int.toNat_natCast Int.toNat_zero Int.toNat_one Nat.sub_zero ge_iff_le gt_iff_lt Nat.le_refl Int.le_refl List.drop_zero Int.ofNat_eq_natCast Int.natCast_nonneg Int.sub_zero oc_int oc_bool oc_str oc_ptr oc_sl oc_map oc_func List.set_cons_zero List.set_cons_succ Nat.mul_one List.all_cons List.all_nil Bool.and_self res_nil res_tmp res_cell tup_one tup_two tup_nil fill_nil repl_zero cells_agg List.append_eq List.toList_toArray Nat.zero_mul Nat.one_mul repl_one repl_two onSome_build fill_cons onSome_lit splice_eq cells_int cells_bool cells_str cells_ptr cells_sl cells_map cells_func loadK_n loadK_s load_k storeK_n storeK_s store_k all_arr List.take_zero List.take_succ_cons List.drop_succ_cons List.take_nil List.drop_nil lk_own lk_ro lk_lock lk_lk fixed_lk gate_nt gate_nf gate3_b gate3_u undef Bool.true_and Bool.false_and nx_l nx_r nx_lt put_put resV0
attribute [local go_sem] str_inj size_str
/-! The document's Put: by a list of places. -/
def plE : Enc (List UInt8 × Nat) := ⟨2, fun x => [.string (str x.1), .int .i64 (x.2 : Int)], fun _ => rfl, fun _ => rfl⟩
theorem findD_app (k : List UInt8) : ∀ (m1 m2 : List (List UInt8 × Nat)), findD k (m1 ++ m2) = match findD k m1 with | some a => some a | none => findD k m2
  | [], m2 => rfl
  | x :: m1, m2 => by
    rw [List.cons_append, findD, findD]
    by_cases h : k = x.1 ∧ x.2 < 16384
    · rw [if_pos h, if_pos h]
    · rw [if_neg h, if_neg h]; exact findD_app k m1 m2
theorem findD_here {k : List UInt8} {m : List (List UInt8 × Nat)} {i : Nat} {x : List UInt8 × Nat} (h : findD k (m.take i) = none) (hx : m[i]? = some x) (h1 : k = x.1) (h2 : x.2 < 16384) : findD k m = some x.2 := by
  obtain ⟨hi, rfl⟩ := List.getElem?_eq_some_iff.1 hx
  conv => lhs; rw [← List.take_append_drop i m, findD_app, h, List.drop_eq_getElem_cons hi]
  rw [findD, if_pos ⟨h1, h2⟩]
theorem findD_next {k : List UInt8} {m : List (List UInt8 × Nat)} {i : Nat} {x : List UInt8 × Nat} (h : findD k (m.take i) = none) (hx : m[i]? = some x) (h1 : ¬ (k = x.1 ∧ x.2 < 16384)) : findD k (m.take (i + 1)) = none := by
  obtain ⟨hi, rfl⟩ := List.getElem?_eq_some_iff.1 hx
  rw [List.take_succ_eq_append_getElem hi, findD_app, h, findD, if_neg h1]; rfl
theorem pl_one (x : List UInt8 × Nat) : [Value.string (str x.1), .int .i64 (x.2 : Int)] = plE.flat [x] := by simp [Enc.flat, plE]
theorem len_own {α : Type} {E : Enc α} {P : Program} {h H : Heap} {w : Value} {D : List Nat} {l : List α} (hO : OwnRow E h w D l) {t : Nat} {K : Value → Prop} : @lenH P (some t) w H ⟨K⟩ = @onSome _ (if isSl P t then some (.int .i64 l.length) else none) ⟨K⟩ := by
  obtain ⟨A, st, rfl⟩ := hO.row.form
  exact len_sl
theorem far_hi {a : Nat} (ha : a < 16384) : IntKind.u8.wrap (IntKind.i64.wrap (192 + IntKind.i64.wrap ((a : Int).tdiv 256))) = ((UInt8.ofNat (192 + a / 256)).toNat : Int) := by
  have e : (a : Int).tdiv 256 = ((a / 256 : Nat) : Int) := by rw [Int.tdiv_eq_ediv_of_nonneg (by omega)]; rfl
  rw [e, i64wrap (x := ((a / 256 : Nat) : Int)) (by omega) (by omega), i64wrap (by omega) (by omega), u8wrap (by omega) (by omega)]; simp; omega
theorem far_lo {a : Nat} : IntKind.u8.wrap ((a : Int).tmod 256) = ((UInt8.ofNat (a % 256)).toNat : Int) := by
  have e : (a : Int).tmod 256 = ((a % 256 : Nat) : Int) := by rw [Int.tmod_eq_emod_of_nonneg (by omega)]; rfl
  rw [e, u8wrap (by omega) (by omega)]; simp
theorem two_val (a b : UInt8) : bytesVal [.int .u8 (a.toNat : Int), .int .u8 (b.toNat : Int)] = some [a, b] := bc_val (l := [a, b])
theorem one_val (a : UInt8) : bytesVal [.int .u8 (a.toNat : Int)] = some [a] := bc_val (l := [a])
theorem own_empty {α : Type} {E : Enc α} {H : Heap} {k : Nat} (hk : k = E.k) : OwnRow E (H.alloc (.cells [] .own)) (.slice (some ⟨H.next, 0, none⟩) 0 k) [H.next] [] :=
  .inr ⟨H.next, 0, [], rfl, Nat.lt_succ_self _, by rw [hk]; rfl, by rw [get_alloc, if_pos rfl], by simp, by simp [Enc.flat]⟩
theorem DocPut_ph (h : Heap) (v : Value) (D : List Nat) (m : List (List UInt8 × Nat)) (b l : List UInt8) (hO : OwnRow plE h v D m) (hl : l.length < 8796093022208) (hb : b.length ≤ 1099511627776) (hml : m.length ≤ 1099511627776) :
    @CallsH Tryd.prog 7 #[v, .string (str b), .string (str l)] h ⟨fun u H => Upd h H [] ∧ match nameOf l with
      | none => u = .tuple #[v, .string (str []), .int .i64 14]
      | some ps => ∃ w D', u = .tuple #[w, .string (str (docP m b ps).2), .int .i64 0] ∧ OwnRow plE H w D' (docP m b ps).1 ∧ ∀ d ∈ D', d ∈ D ∨ h.next ≤ d⟩ := by
  have hov := hO.row.one
  (refine calls_of_vc [] hm Tryd.func7 rfl (ts := [6, 7, 8]) rfl (by kernel_rfl) (by simp) ?_; simp (config := { dsimp := false, maxSteps := 10000000 }) (disch := omega) only [go_sem, reduceIte, Nat.reduceEqDiff, reduceCtorEq, Nat.reduceAdd, Nat.reduceMul, Int.reduceToNat, Int.reduceLE, Int.reduceLT, Int.reduceEq, Int.reduceNe, Nat.reduceLeDiff, Int.reducePow, Nat.reducePow, Nat.reduceLT, Nat.reduceSub, Nat.reduceMod, Nat.reduceDiv, slot_neg, slot_pos, T.ag_3, T.ag_9, T.eb_23, T.eb_33, T.es_22, T.es_33, T.es_9, T.ez_23, T.ez_33, T.fo_48_0, T.fo_48_1, T.gf_13, T.ib_24, T.ib_3, T.ib_9, T.ii_22, T.ii_23, T.ii_3, T.ii_33, T.ii_5, T.ii_9, T.ip_24, T.ip_3, T.ip_9, T.pl_48, T.s8_22, T.s8_23, T.s8_3, T.s8_33, T.s8_5, T.s8_9, T.sl_22, T.sl_23, T.sl_3, T.sl_33, T.sl_5, T.sl_9, T.st_22, T.st_23, T.st_3, T.st_33, T.st_5, T.st_9, T.un_22, T.un_23, T.un_3, T.un_33, T.un_5, T.un_9, T.zo_48, init_a, mk_str])
  refine (DocLabels_ph h l hl).mono fun u H1 ⟨hU1, hu1⟩ => ?_
  cases hn : nameOf l with
  | none =>
    rw [hn] at hu1
    dsimp only at hu1
    subst hu1
    simp (config := { dsimp := false, maxSteps := 10000000 }) (disch := omega) only [go_sem, reduceIte, Nat.reduceEqDiff, reduceCtorEq, Nat.reduceAdd, Nat.reduceMul, Int.reduceToNat, Int.reduceLE, Int.reduceLT, Int.reduceEq, Int.reduceNe, Nat.reduceLeDiff, Int.reducePow, Nat.reducePow, Nat.reduceLT, Nat.reduceSub, Nat.reduceMod, Nat.reduceDiv, slot_neg, slot_pos, T.ag_3, T.ag_9, T.eb_23, T.eb_33, T.es_22, T.es_33, T.es_9, T.ez_23, T.ez_33, T.fo_48_0, T.fo_48_1, T.gf_13, T.ib_24, T.ib_3, T.ib_9, T.ii_22, T.ii_23, T.ii_3, T.ii_33, T.ii_5, T.ii_9, T.ip_24, T.ip_3, T.ip_9, T.pl_48, T.s8_22, T.s8_23, T.s8_3, T.s8_33, T.s8_5, T.s8_9, T.sl_22, T.sl_23, T.sl_3, T.sl_33, T.sl_5, T.sl_9, T.st_22, T.st_23, T.st_3, T.st_33, T.st_5, T.st_9, T.un_22, T.un_23, T.un_3, T.un_33, T.un_5, T.un_9, T.zo_48]
    exact hU1
  | some ps =>
    rw [hn] at hu1
    obtain ⟨x, E, rfl, hX, hE⟩ := hu1
    have hplen := name_len hn
    have hcnt := count_le ps
    have hox := hX.row.one
    have hpok := (name_ok hn).2
    simp (config := { dsimp := false, maxSteps := 10000000 }) (disch := omega) only [go_sem, reduceIte, Nat.reduceEqDiff, reduceCtorEq, Nat.reduceAdd, Nat.reduceMul, Int.reduceToNat, Int.reduceLE, Int.reduceLT, Int.reduceEq, Int.reduceNe, Nat.reduceLeDiff, Int.reducePow, Nat.reducePow, Nat.reduceLT, Nat.reduceSub, Nat.reduceMod, Nat.reduceDiv, slot_neg, slot_pos, T.ag_3, T.ag_9, T.eb_23, T.eb_33, T.es_22, T.es_33, T.es_9, T.ez_23, T.ez_33, T.fo_48_0, T.fo_48_1, T.gf_13, T.ib_24, T.ib_3, T.ib_9, T.ii_22, T.ii_23, T.ii_3, T.ii_33, T.ii_5, T.ii_9, T.ip_24, T.ip_3, T.ip_9, T.pl_48, T.s8_22, T.s8_23, T.s8_3, T.s8_33, T.s8_5, T.s8_9, T.sl_22, T.sl_23, T.sl_3, T.sl_33, T.sl_5, T.sl_9, T.st_22, T.st_23, T.st_3, T.st_33, T.st_5, T.st_9, T.un_22, T.un_23, T.un_3, T.un_33, T.un_5, T.un_9, T.zo_48, hox.1, hox.2]
    refine loop_intro [] hm (fun r H3 => ∃ (i : Nat) (w : Value) (D2 : List Nat) (b2 rs : List UInt8) (m2 : List (List UInt8 × Nat)), i ≤ ps.length ∧ b2.length ≤ b.length + 64 * i ∧ m2.length ≤ m.length + i ∧ r 0 = w ∧ r 1 = .string (str b2) ∧ r 9 = x ∧ r 11 = .string (str rs) ∧ (i < ps.length → rs = restD (ps.drop i)) ∧ r 12 = .int .i64 i ∧ OwnRow plE H3 w D2 m2 ∧ OwnRow tE H3 x E ps ∧ (∀ d ∈ D2, d ∈ D ∨ h.next ≤ d) ∧ docP m b ps = docP m2 b2 (ps.drop i) ∧ Upd h H3 []) (fun r _ => match r 12 with | .int _ i => ps.length - i.toNat | _ => 0) ?_ ?_
    · refine ⟨0, v, D, b, l, m, by omega, by omega, by omega, by simp [upd, initR], by simp [upd, initR], by simp [upd, initR], by simp [upd, initR], fun hi => ?_, by simp [upd], hO.upd hU1 (by simp), hX, fun d hd => .inl hd, rfl, hU1⟩
      rcases name_rest hn with ⟨e, _⟩ | ⟨_, e⟩
      · rw [e] at hi; cases hi
      · exact e
    · rintro r H3 ⟨i, w, D2, b2, rs, m2, hi, hbl, hm2, q0, q1, q9, q11, hrs, q12, hO3, hX3, hD3, hput, hU3⟩
      have how := hO3.row.one
      have hox3 := hX3.row.one
      by_cases hil : i < ps.length
      · have c1 : ((i : Int) < (ps.length : Int)) = True := eq_true (by omega)
        have wi : IntKind.i64.wrap ((i : Int) + 1) = ((i + 1 : Nat) : Int) := by rw [i64wrap] <;> omega
        have hx : ps[i]? = some ps[i] := List.getElem?_eq_getElem hil
        have hpo := ok_len (hpok _ (List.getElem_mem hil))
        have hrs' := hrs hil
        clear hrs
        rw [List.drop_eq_getElem_cons hil] at hrs' hput
        rw [docP] at hput
        have hrl : (restD (ps.drop (i + 1))).length ≤ 254 := by rw [rest_len]; exact Nat.le_trans (sum_drop _ _ _) hplen
        have hX3' := hX3
        rcases hX3 with ⟨_, h0, _⟩ | ⟨q, off, vs, hE3, hqn, hv', hg, hR⟩
        · rw [h0] at hil; simp at hil
        have hcell := (rowT_iff.1 hR).2 i _ hx
        rw [show tE.k = 1 from rfl] at hv'
        generalize ps[i] = pt at *
        have hrs2 : restD (pt :: ps.drop (i + 1)) = rs := hrs'.symm
        rw [restD] at hrs'
        have dA2 : (b2.length + 2 ≤ 9223372036854775807) = True := eq_true (by omega)
        simp (config := { dsimp := false, maxSteps := 10000000 }) (disch := omega) only [go_sem, reduceIte, Nat.reduceEqDiff, reduceCtorEq, Nat.reduceAdd, Nat.reduceMul, Int.reduceToNat, Int.reduceLE, Int.reduceLT, Int.reduceEq, Int.reduceNe, Nat.reduceLeDiff, Int.reducePow, Nat.reducePow, Nat.reduceLT, Nat.reduceSub, Nat.reduceMod, Nat.reduceDiv, slot_neg, slot_pos, T.ag_3, T.ag_9, T.eb_23, T.eb_33, T.es_22, T.es_33, T.es_9, T.ez_23, T.ez_33, T.fo_48_0, T.fo_48_1, T.gf_13, T.ib_24, T.ib_3, T.ib_9, T.ii_22, T.ii_23, T.ii_3, T.ii_33, T.ii_5, T.ii_9, T.ip_24, T.ip_3, T.ip_9, T.pl_48, T.s8_22, T.s8_23, T.s8_3, T.s8_33, T.s8_5, T.s8_9, T.sl_22, T.sl_23, T.sl_3, T.sl_33, T.sl_5, T.sl_9, T.st_22, T.st_23, T.st_3, T.st_33, T.st_5, T.st_9, T.un_22, T.un_23, T.un_3, T.un_33, T.un_5, T.un_9, T.zo_48, q0, q1, q9, q11, q12, c1, hox3.1, hox3.2, hv']
        refine loop_intro [] hm (fun r4 H4 => ∃ k : Nat, k ≤ m2.length ∧ findD rs (m2.take k) = none ∧ r4 0 = w ∧ r4 1 = .string (str b2) ∧ r4 9 = x ∧ r4 11 = .string (str rs) ∧ r4 12 = .int .i64 i ∧ r4 13 = .int .i64 k ∧ H4 = H3) (fun r _ => match r 13 with | .int _ i => m2.length - i.toNat | _ => 0) ?_ ?_
        · exact ⟨0, by omega, rfl, by simp [upd, q0], by simp [upd, q1], by simp [upd, q9, hv'], by simp [upd, q11], by simp [upd, q12], by simp [upd], rfl⟩
        · rintro r4 H4 ⟨k, hk, hno, p0, p1, p9, p11, p12, p13, rfl⟩
          by_cases hkl : k < m2.length
          · have d1 : ((k : Int) < (m2.length : Int)) = True := eq_true (by omega)
            have wk : IntKind.i64.wrap ((k : Int) + 1) = ((k + 1 : Nat) : Int) := by rw [i64wrap] <;> omega
            have hy : m2[k]? = some m2[k] := List.getElem?_eq_getElem hkl
            have hO3' := hO3
            rcases hO3' with ⟨_, h0, _⟩ | ⟨q2, off2, vs2, hq2, hqn2, hv2, hg2, hR2⟩
            · rw [h0] at hkl; simp at hkl
            have cR := hR2.cell hy (j := 0) (by decide)
            have cA := hR2.cell hy (j := 1) (by decide)
            rw [show plE.k = 2 from rfl] at hv2 cR cA
            generalize m2[k] = y at *
            replace cR : vs2[off2 + k * 2]? = some (.string (str y.1)) := cR
            replace cA : vs2[off2 + k * 2 + 1]? = some (.int .i64 (y.2 : Int)) := cA
            by_cases hmt : y.1 = rs
            · have d2 := eq_true hmt
              by_cases ha : y.2 < 16384
              · have d3 : ((y.2 : Int) < 16384) = True := eq_true (by omega)
                have hf := findD_here hno hy hmt.symm ha
                simp (config := { dsimp := false, maxSteps := 10000000 }) (disch := omega) only [go_sem, reduceIte, Nat.reduceEqDiff, reduceCtorEq, Nat.reduceAdd, Nat.reduceMul, Int.reduceToNat, Int.reduceLE, Int.reduceLT, Int.reduceEq, Int.reduceNe, Nat.reduceLeDiff, Int.reducePow, Nat.reducePow, Nat.reduceLT, Nat.reduceSub, Nat.reduceMod, Nat.reduceDiv, slot_neg, slot_pos, T.ag_3, T.ag_9, T.eb_23, T.eb_33, T.es_22, T.es_33, T.es_9, T.ez_23, T.ez_33, T.fo_48_0, T.fo_48_1, T.gf_13, T.ib_24, T.ib_3, T.ib_9, T.ii_22, T.ii_23, T.ii_3, T.ii_33, T.ii_5, T.ii_9, T.ip_24, T.ip_3, T.ip_9, T.pl_48, T.s8_22, T.s8_23, T.s8_3, T.s8_33, T.s8_5, T.s8_9, T.sl_22, T.sl_23, T.sl_3, T.sl_33, T.sl_5, T.sl_9, T.st_22, T.st_23, T.st_3, T.st_33, T.st_5, T.st_9, T.un_22, T.un_23, T.un_3, T.un_33, T.un_5, T.un_9, T.zo_48, p0, p1, p9, p11, p12, p13, d1, hv2, hg2, cR, cA, d2, d3]
                refine draw_plan [] (.takeS 2 (.takeS 3 (.takeS 4 (.takeS 5 (.takeS 6 (.takeS 7 (.takeS 8 (.takeS 9 (.takeS 10 (.takeS 11 (.takeS 12 (.takeS 13 (.takeS 14 (.takeS 15 (.takeS 16 (.take 0 (.take 1 (.take 20 (.alt 17 (.takeS 18 (.takeS 19 (.takeS 21 (.takeS 22 .done)))) .stop))))))))))))))))))) hm (by kernel_rfl) (by kernel_rfl) ?_
                simp (config := { dsimp := false, maxSteps := 10000000 }) (disch := omega) only [go_sem, reduceIte, Nat.reduceEqDiff, reduceCtorEq, Nat.reduceAdd, Nat.reduceMul, Int.reduceToNat, Int.reduceLE, Int.reduceLT, Int.reduceEq, Int.reduceNe, Nat.reduceLeDiff, Int.reducePow, Nat.reducePow, Nat.reduceLT, Nat.reduceSub, Nat.reduceMod, Nat.reduceDiv, slot_neg, slot_pos, T.ag_3, T.ag_9, T.eb_23, T.eb_33, T.es_22, T.es_33, T.es_9, T.ez_23, T.ez_33, T.fo_48_0, T.fo_48_1, T.gf_13, T.ib_24, T.ib_3, T.ib_9, T.ii_22, T.ii_23, T.ii_3, T.ii_33, T.ii_5, T.ii_9, T.ip_24, T.ip_3, T.ip_9, T.pl_48, T.s8_22, T.s8_23, T.s8_3, T.s8_33, T.s8_5, T.s8_9, T.sl_22, T.sl_23, T.sl_3, T.sl_33, T.sl_5, T.sl_9, T.st_22, T.st_23, T.st_3, T.st_33, T.st_5, T.st_9, T.un_22, T.un_23, T.un_3, T.un_33, T.un_5, T.un_9, T.zo_48, p0, p1, p9, p11, p12, p13, d1, hv2, hg2, cR, cA, hqn2, far_hi ha, far_lo (a := y.2), two_val, app_str, dA2]
                rw [hrs2, hf] at hput
                rw [hput]
                exact ⟨hU3.unmask (Nat.le_succ _) (fun d hd => by cases hd), w, D2, by rw [hv2], hO3.keep (by rw [next_unmask]; exact Nat.le_succ _) fun d hd => by rw [get_unmask, if_pos ⟨hO3.lt d hd, by simp⟩], hD3⟩
              · have d3 : ((y.2 : Int) < 16384) = False := eq_false (by omega)
                have hf := findD_next hno hy (fun e => ha e.2)
                simp (config := { dsimp := false, maxSteps := 10000000 }) (disch := omega) only [go_sem, reduceIte, Nat.reduceEqDiff, reduceCtorEq, Nat.reduceAdd, Nat.reduceMul, Int.reduceToNat, Int.reduceLE, Int.reduceLT, Int.reduceEq, Int.reduceNe, Nat.reduceLeDiff, Int.reducePow, Nat.reducePow, Nat.reduceLT, Nat.reduceSub, Nat.reduceMod, Nat.reduceDiv, slot_neg, slot_pos, T.ag_3, T.ag_9, T.eb_23, T.eb_33, T.es_22, T.es_33, T.es_9, T.ez_23, T.ez_33, T.fo_48_0, T.fo_48_1, T.gf_13, T.ib_24, T.ib_3, T.ib_9, T.ii_22, T.ii_23, T.ii_3, T.ii_33, T.ii_5, T.ii_9, T.ip_24, T.ip_3, T.ip_9, T.pl_48, T.s8_22, T.s8_23, T.s8_3, T.s8_33, T.s8_5, T.s8_9, T.sl_22, T.sl_23, T.sl_3, T.sl_33, T.sl_5, T.sl_9, T.st_22, T.st_23, T.st_3, T.st_33, T.st_5, T.st_9, T.un_22, T.un_23, T.un_3, T.un_33, T.un_5, T.un_9, T.zo_48, p0, p1, p9, p11, p12, p13, d1, hv2, hg2, cR, cA, d2, d3, wk]
                exact ⟨⟨k + 1, hkl, hf, rfl⟩, by omega⟩
            · have d2 := eq_false hmt
              have hf := findD_next hno hy (fun e => hmt e.1.symm)
              simp (config := { dsimp := false, maxSteps := 10000000 }) (disch := omega) only [go_sem, reduceIte, Nat.reduceEqDiff, reduceCtorEq, Nat.reduceAdd, Nat.reduceMul, Int.reduceToNat, Int.reduceLE, Int.reduceLT, Int.reduceEq, Int.reduceNe, Nat.reduceLeDiff, Int.reducePow, Nat.reducePow, Nat.reduceLT, Nat.reduceSub, Nat.reduceMod, Nat.reduceDiv, slot_neg, slot_pos, T.ag_3, T.ag_9, T.eb_23, T.eb_33, T.es_22, T.es_33, T.es_9, T.ez_23, T.ez_33, T.fo_48_0, T.fo_48_1, T.gf_13, T.ib_24, T.ib_3, T.ib_9, T.ii_22, T.ii_23, T.ii_3, T.ii_33, T.ii_5, T.ii_9, T.ip_24, T.ip_3, T.ip_9, T.pl_48, T.s8_22, T.s8_23, T.s8_3, T.s8_33, T.s8_5, T.s8_9, T.sl_22, T.sl_23, T.sl_3, T.sl_33, T.sl_5, T.sl_9, T.st_22, T.st_23, T.st_3, T.st_33, T.st_5, T.st_9, T.un_22, T.un_23, T.un_3, T.un_33, T.un_5, T.un_9, T.zo_48, p0, p1, p9, p11, p12, p13, d1, hv2, hg2, cR, cA, d2, wk]
              exact ⟨⟨k + 1, hkl, hf, rfl⟩, by omega⟩
          · obtain rfl : k = m2.length := by omega
            have d1 : ((m2.length : Int) < (m2.length : Int)) = False := eq_false (by omega)
            rw [List.take_length] at hno
            rw [hrs2, hno] at hput
            dsimp only at hput
            simp (config := { dsimp := false, maxSteps := 10000000 }) (disch := omega) only [go_sem, reduceIte, Nat.reduceEqDiff, reduceCtorEq, Nat.reduceAdd, Nat.reduceMul, Int.reduceToNat, Int.reduceLE, Int.reduceLT, Int.reduceEq, Int.reduceNe, Nat.reduceLeDiff, Int.reducePow, Nat.reducePow, Nat.reduceLT, Nat.reduceSub, Nat.reduceMod, Nat.reduceDiv, slot_neg, slot_pos, T.ag_3, T.ag_9, T.eb_23, T.eb_33, T.es_22, T.es_33, T.es_9, T.ez_23, T.ez_33, T.fo_48_0, T.fo_48_1, T.gf_13, T.ib_24, T.ib_3, T.ib_9, T.ii_22, T.ii_23, T.ii_3, T.ii_33, T.ii_5, T.ii_9, T.ip_24, T.ip_3, T.ip_9, T.pl_48, T.s8_22, T.s8_23, T.s8_3, T.s8_33, T.s8_5, T.s8_9, T.sl_22, T.sl_23, T.sl_3, T.sl_33, T.sl_5, T.sl_9, T.st_22, T.st_23, T.st_3, T.st_33, T.st_5, T.st_9, T.un_22, T.un_23, T.un_3, T.un_33, T.un_5, T.un_9, T.zo_48, p0, p1, p9, p11, p12, p13, d1, how.1, how.2, len_own hO3]
            obtain ⟨v9, e9⟩ : ∃ v9 : Value, v9 = .slice (some ⟨H4.next, 0, none⟩) 0 2 := ⟨_, rfl⟩
            have ho9 : OwnRow plE (H4.alloc (.cells [] .own)) v9 [H4.next] [] := by rw [e9]; exact own_empty rfl
            rw [← e9]
            refine news_row (l := m2) (by kernel_rfl) (hO3.upd (Upd.alloc _ _ []) (by simp)).row rfl ?_
            simp (config := { dsimp := false, maxSteps := 10000000 }) (disch := omega) only [go_sem, reduceIte, Nat.reduceEqDiff, reduceCtorEq, Nat.reduceAdd, Nat.reduceMul, Int.reduceToNat, Int.reduceLE, Int.reduceLT, Int.reduceEq, Int.reduceNe, Nat.reduceLeDiff, Int.reducePow, Nat.reducePow, Nat.reduceLT, Nat.reduceSub, Nat.reduceMod, Nat.reduceDiv, slot_neg, slot_pos, T.ag_3, T.ag_9, T.eb_23, T.eb_33, T.es_22, T.es_33, T.es_9, T.ez_23, T.ez_33, T.fo_48_0, T.fo_48_1, T.gf_13, T.ib_24, T.ib_3, T.ib_9, T.ii_22, T.ii_23, T.ii_3, T.ii_33, T.ii_5, T.ii_9, T.ip_24, T.ip_3, T.ip_9, T.pl_48, T.s8_22, T.s8_23, T.s8_3, T.s8_33, T.s8_5, T.s8_9, T.sl_22, T.sl_23, T.sl_3, T.sl_33, T.sl_5, T.sl_9, T.st_22, T.st_23, T.st_3, T.st_33, T.st_5, T.st_9, T.un_22, T.un_23, T.un_3, T.un_33, T.un_5, T.un_9, T.zo_48]
            refine ⟨flat_one _, app_own (E := plE) (ns := m2) ho9 rfl rfl rfl (by simp only [List.length_nil]; omega) fun u5 H5 D5 hO5 hU5 hD5 => ?_⟩
            have ho5 := hO5.row.one
            simp (config := { dsimp := false, maxSteps := 10000000 }) (disch := omega) only [go_sem, reduceIte, Nat.reduceEqDiff, reduceCtorEq, Nat.reduceAdd, Nat.reduceMul, Int.reduceToNat, Int.reduceLE, Int.reduceLT, Int.reduceEq, Int.reduceNe, Nat.reduceLeDiff, Int.reducePow, Nat.reducePow, Nat.reduceLT, Nat.reduceSub, Nat.reduceMod, Nat.reduceDiv, slot_neg, slot_pos, T.ag_3, T.ag_9, T.eb_23, T.eb_33, T.es_22, T.es_33, T.es_9, T.ez_23, T.ez_33, T.fo_48_0, T.fo_48_1, T.gf_13, T.ib_24, T.ib_3, T.ib_9, T.ii_22, T.ii_23, T.ii_3, T.ii_33, T.ii_5, T.ii_9, T.ip_24, T.ip_3, T.ip_9, T.pl_48, T.s8_22, T.s8_23, T.s8_3, T.s8_33, T.s8_5, T.s8_9, T.sl_22, T.sl_23, T.sl_3, T.sl_33, T.sl_5, T.sl_9, T.st_22, T.st_23, T.st_3, T.st_33, T.st_5, T.st_9, T.un_22, T.un_23, T.un_3, T.un_33, T.un_5, T.un_9, T.zo_48, p0, p1, p9, p11, p12, p13, ho5.1, ho5.2]
            refine app_own (E := plE) (ns := [(rs, b2.length)]) (hO5.upd (Upd.alloc _ _ []) (by simp)) rfl (pl_one (rs, b2.length)) rfl (by simp only [List.length_append, List.length_nil, List.length_singleton]; omega) fun u6 H6 D6 hO6 hU6 hD6 => ?_
            have ho6 := hO6.row.one
            have n5 := hU5.1
            have n6 := hU6.1
            have a1 : H4.next + 1 ≤ H5.next := n5
            have a2 : H5.next + 1 ≤ H6.next := n6
            have m5 : ∀ d ∈ D5, H4.next ≤ d := fun d hd => by
              rcases hD5 d hd with h9 | h9
              · simp at h9; omega
              · have h8 : H4.next + 1 ≤ d := h9
                omega
            have m6 : ∀ d ∈ D6, H4.next ≤ d := fun d hd => by
              rcases hD6 d hd with h9 | h9
              · exact m5 d h9
              · have h8 : H5.next + 1 ≤ d := h9
                omega
            have k6 : ∀ d, d < H4.next → H6.get d = H4.get d := fun d hd => by
              rw [hU6.2 d (by show d < H5.next + 1; omega) (fun h9 => by have := m5 d h9; omega), get_alloc, if_neg (by omega), hU5.2 d (by show d < H4.next + 1; omega) (by simp; omega), get_alloc, if_neg (by omega)]
            have hg6 := (k6 q hqn).trans hg
            have hqn6 : q < H6.next := by omega
            have dA3 : (b2.length ≤ 9223372036854775806) = True := eq_true (by omega)
            have dA4 : (b2.length + 1 + pt.length ≤ 9223372036854775807) = True := eq_true (by omega)
            have wp : IntKind.u8.wrap (pt.length : Int) = ((UInt8.ofNat pt.length).toNat : Int) := by rw [u8wrap (by omega) (by omega)]; simp; omega
            have wl : IntKind.i64.wrap ((pt.length : Int) + 1) = ((pt.length + 1 : Nat) : Int) := by rw [i64wrap] <;> omega
            simp (config := { dsimp := false, maxSteps := 10000000 }) (disch := omega) only [go_sem, reduceIte, Nat.reduceEqDiff, reduceCtorEq, Nat.reduceAdd, Nat.reduceMul, Int.reduceToNat, Int.reduceLE, Int.reduceLT, Int.reduceEq, Int.reduceNe, Nat.reduceLeDiff, Int.reducePow, Nat.reducePow, Nat.reduceLT, Nat.reduceSub, Nat.reduceMod, Nat.reduceDiv, slot_neg, slot_pos, T.ag_3, T.ag_9, T.eb_23, T.eb_33, T.es_22, T.es_33, T.es_9, T.ez_23, T.ez_33, T.fo_48_0, T.fo_48_1, T.gf_13, T.ib_24, T.ib_3, T.ib_9, T.ii_22, T.ii_23, T.ii_3, T.ii_33, T.ii_5, T.ii_9, T.ip_24, T.ip_3, T.ip_9, T.pl_48, T.s8_22, T.s8_23, T.s8_3, T.s8_33, T.s8_5, T.s8_9, T.sl_22, T.sl_23, T.sl_3, T.sl_33, T.sl_5, T.sl_9, T.st_22, T.st_23, T.st_3, T.st_33, T.st_5, T.st_9, T.un_22, T.un_23, T.un_3, T.un_33, T.un_5, T.un_9, T.zo_48, p0, p1, p9, p11, p12, p13, ho6.1, ho6.2]
            refine draw_plan [] (.takeS 1 (.takeS 2 (.takeS 3 (.takeS 4 (.takeS 5 (.takeS 6 (.take 0 (.take 10 (.take 11 (.take 12 (.take 13 (.alt 7 (.takeS 8 (.takeS 9 (.takeS 14 (.takeS 15 .done)))) .stop)))))))))))) hm (by kernel_rfl) (by kernel_rfl) ?_
            simp (config := { dsimp := false, maxSteps := 10000000 }) (disch := omega) only [go_sem, reduceIte, Nat.reduceEqDiff, reduceCtorEq, Nat.reduceAdd, Nat.reduceMul, Int.reduceToNat, Int.reduceLE, Int.reduceLT, Int.reduceEq, Int.reduceNe, Nat.reduceLeDiff, Int.reducePow, Nat.reducePow, Nat.reduceLT, Nat.reduceSub, Nat.reduceMod, Nat.reduceDiv, slot_neg, slot_pos, T.ag_3, T.ag_9, T.eb_23, T.eb_33, T.es_22, T.es_33, T.es_9, T.ez_23, T.ez_33, T.fo_48_0, T.fo_48_1, T.gf_13, T.ib_24, T.ib_3, T.ib_9, T.ii_22, T.ii_23, T.ii_3, T.ii_33, T.ii_5, T.ii_9, T.ip_24, T.ip_3, T.ip_9, T.pl_48, T.s8_22, T.s8_23, T.s8_3, T.s8_33, T.s8_5, T.s8_9, T.sl_22, T.sl_23, T.sl_3, T.sl_33, T.sl_5, T.sl_9, T.st_22, T.st_23, T.st_3, T.st_33, T.st_5, T.st_9, T.un_22, T.un_23, T.un_3, T.un_33, T.un_5, T.un_9, T.zo_48, p0, p1, p9, p11, p12, p13, ho6.1, ho6.2, hv', hg6, hqn6, hcell, wp, one_val, app_str, wl, wi, c1, dA3, dA4, List.length_append, List.length_singleton]
            have n3 := hU3.1
            have hrsl : rs.length = pt.length + 1 + (restD (ps.drop (i + 1))).length := by rw [hrs']; simp; omega
            have hrs3 : List.take (rs.length - (pt.length + 1)) (List.drop (pt.length + 1) rs) = restD (ps.drop (i + 1)) := by
              rw [List.take_of_length_le (by rw [List.length_drop]; exact Nat.le_refl _), hrs', show pt ++ 46 :: restD (ps.drop (i + 1)) = (pt ++ [46]) ++ restD (ps.drop (i + 1)) from by simp]
              exact List.drop_left' (by simp)
            have hU6' : Upd h H6 [] := ((((hU3.trans (Upd.alloc _ _ []) (by simp)).trans hU5 fun d h9 => .inr (by simp at h9; omega)).trans (Upd.alloc _ _ []) (by simp)).trans hU6 fun d h9 => .inr (by have := m5 d h9; omega))
            refine ⟨by omega, ⟨i + 1, u6, D6, b2 ++ [UInt8.ofNat pt.length] ++ pt, _, m2 ++ [(rs, b2.length)], hil, by simp; omega, by simp; omega, rfl, rfl, rfl, fun _ => hrs3, rfl, ?_, ?_, fun d h9 => .inr (by have := m6 d h9; omega), hput, hU6'.unmask (Nat.le_succ _) fun d hd => by cases hd⟩, by rw [q12]; simp; omega⟩
            · exact hO6.keep (by rw [next_unmask]; exact Nat.le_succ _) fun d hd => by rw [get_unmask, if_pos ⟨hO6.lt d hd, by simp⟩]
            · rw [← hv']
              have hl3 := hX3'.lt
              exact hX3'.keep (by rw [next_unmask]; show H4.next ≤ H6.next + 1; omega) fun d hd => by rw [get_unmask, if_pos ⟨by have := hl3 d hd; omega, by simp⟩, k6 d (hl3 d hd)]
      · obtain rfl : i = ps.length := by omega
        have c1 : ((ps.length : Int) < (ps.length : Int)) = False := eq_false (by omega)
        rw [List.drop_length, docP] at hput
        have dA : (b2.length + 1 ≤ 9223372036854775807) = True := eq_true (by omega)
        simp (config := { dsimp := false, maxSteps := 10000000 }) (disch := omega) only [go_sem, reduceIte, Nat.reduceEqDiff, reduceCtorEq, Nat.reduceAdd, Nat.reduceMul, Int.reduceToNat, Int.reduceLE, Int.reduceLT, Int.reduceEq, Int.reduceNe, Nat.reduceLeDiff, Int.reducePow, Nat.reducePow, Nat.reduceLT, Nat.reduceSub, Nat.reduceMod, Nat.reduceDiv, slot_neg, slot_pos, T.ag_3, T.ag_9, T.eb_23, T.eb_33, T.es_22, T.es_33, T.es_9, T.ez_23, T.ez_33, T.fo_48_0, T.fo_48_1, T.gf_13, T.ib_24, T.ib_3, T.ib_9, T.ii_22, T.ii_23, T.ii_3, T.ii_33, T.ii_5, T.ii_9, T.ip_24, T.ip_3, T.ip_9, T.pl_48, T.s8_22, T.s8_23, T.s8_3, T.s8_33, T.s8_5, T.s8_9, T.sl_22, T.sl_23, T.sl_3, T.sl_33, T.sl_5, T.sl_9, T.st_22, T.st_23, T.st_3, T.st_33, T.st_5, T.st_9, T.un_22, T.un_23, T.un_3, T.un_33, T.un_5, T.un_9, T.zo_48, q0, q1, q9, q11, q12, c1, how.1, how.2, hox3.1, hox3.2, mk_str, app_str, dA, len_own hX3]
        rw [hput]
        exact ⟨hU3, w, D2, rfl, hO3, hD3⟩
end Ph
