import Derived.Test.YtliblomkhapibaaL1
set_option maxRecDepth 100000
set_option maxHeartbeats 1000000
set_option linter.unusedSimpArgs false
set_option linter.unusedVariables false
namespace Ph
open Go Go.Proofs
attribute [local irreducible] Value.cells
attribute [local go_sem ↓] y_move y_assign y_pick y_nil y_bin y_un y_fa y_field y_ext y_ia y_ix y_slice y_build y_mf y_load y_len y_min y_max y_conv y_bs y_mk y_alloc y_box y_store y_clear y_app y_callf y_callt s_move s_assign s_pick s_nil s_bin s_un s_fa s_field s_ext s_ia s_ix s_slice s_conv s_build s_bs s_mf s_alloc s_box s_load s_store s_len s_clear s_min s_max s_app s_call q_call q_move q_assign q_pick q_nil q_bin q_un q_fa q_field q_ext q_ia q_ix q_slice q_conv q_build q_mf q_load q_len q_min q_max l_nil l_move l_assign l_pick l_nilc l_bin l_un l_fa l_field l_ext l_ia l_ix l_slice l_conv l_build l_mf l_load l_len l_min l_max l_call put_eq putN_eq o_nil o_plain o_gate v_nil v_plain v_gate vc_skip vc_region vc_seq vc_cond vc_block vc_loop vc_rf vc_exit vc_ret blk_normal blk_ret blk_exit on_normal on_ret on_exit vc_drawn draw_q s_mk l_bs l_mk l_alloc l_box l_store l_app l_clear pl_done pl_takeS pl_take pl_alt pl_stop one_plain one_gate
attribute [local go_sem] clear_nil clear_sl onAgg_a onTuple_t onFn_f onFn_y onFunc_f c_int c_nil c_sl c_str sl_sl sl_nil sl_str ix_str ix_agg n_nil n_sl n_str app_eq k_nil k_sl len_sl len_str upd_some upd_none ev_tmp ev_const ev_func rd_some gdst_eq otmp_t otmp_c get_put get_alloc next_put next_alloc get_app next_app init_a resV1 resV2 onPtr_ptr onBool_b onInt_i onSlice_s onSome_s onCells_c lett_eq gate_tt gate_tf gate_ff gate_ft gate_dt gate_df also_eq bin un minmax io_none io_some bo_none bo_some partOf List.getElem?_cons_zero List.getElem?_cons_succ List.getElem?_toArray Option.map_some Option.map_none Option.bind_some ne_eq not_true_eq_false not_false_eq_true false_implies true_implies and_true true_and and_self Bool.false_eq_true Nat.zero_add Nat.add_zero List.size_toArray List.length_cons List.length_nil List.map_toArray List.map_cons List.map_nil Array.getD_eq_getD_getElem? Option.getD_some Bool.not_true Bool.not_false Bool.not_eq_true Option.isNone_some Option.isNone_none List.append_toArray List.append_nil List.nil_append List.cons_append decide_true decide_false in_nil in_cons Bool.and_false Bool.and_true Bool.or_false Bool.true_or Bool.false_or get_mask next_mask get_unmask next_unmask ac_move ac_assign ac_pick ac_nil ac_bin ac_un ac_fa ac_field ac_ext ac_ia ac_ix ac_slice ac_build ac_mf ac_call ac_load ac_conv accP_p accS_s accS_n accS_i accS_t fixed_ro fixed_lock fixed_own get_ro next_ro lock_live' lock_cells List.mem_cons List.not_mem_nil or_false false_or or_true true_or and_false false_and IntKind.bits Int.natCast_zero Int.natCast_one size_str data_str list_str mk_str ext_str app_str bytes_str w_byte w_byteu Int.toNat_natCast Int.toNat_zero Int.toNat_one Nat.sub_zero ge_iff_le gt_iff_lt Nat.le_refl Int.le_refl List.drop_zero Int.ofNat_eq_natCast Int.natCast_nonneg Int.sub_zero oc_int oc_bool oc_str oc_ptr oc_sl oc_map oc_func List.set_cons_zero List.set_cons_succ Nat.mul_one List.all_cons List.all_nil Bool.and_self res_nil res_tmp res_cell tup_one tup_two tup_nil fill_nil repl_zero cells_agg List.append_eq List.toList_toArray Nat.zero_mul Nat.one_mul repl_one repl_two onSome_build fill_cons onSome_lit splice_eq cells_int cells_bool cells_str cells_ptr cells_sl cells_map cells_func loadK_n loadK_s load_k storeK_n storeK_s store_k all_arr List.take_zero List.take_succ_cons List.drop_succ_cons List.take_nil List.drop_nil lk_own lk_ro lk_lock lk_lk fixed_lk gate_nt gate_nf gate3_b gate3_u undef Bool.true_and Bool.false_and nx_l nx_r nx_lt put_put resV0
/-- slices.DeleteFunc: what is asked may do something, but to the row -/
theorem DeletePk_ph (h : Heap) (q off : Nat) (vs : List Value) (l : List Pk) (g : Nat) (cap : Array Value) (p : Pk → Bool) (F : List Nat) (J : Nat → List Nat → Heap → Prop) (D0 : List Nat) (hl : l.length < 9223372036854775807) (hg : goodFunc Try.prog g = true)
    (hq : h.get q = .live (.cells vs .own)) (hR : RowV pkE vs off l) (hqn : q < h.next) (hqF : q ∉ F) (h0 : J 0 D0 h) (hF : ∀ d ∈ F, d < h.next)
    (hD : ∀ i D H, J i D H → ∀ d ∈ D, d < H.next ∧ d ≠ q)
    (hst : ∀ i D H H', J i D H → H.next ≤ H'.next → (∀ id, id < H.next → (id < h.next ∧ id ≠ q) ∨ id ∈ D → H'.get id = H.get id) → J i D H')
    (hc : ∀ (i : Nat) (x : Pk) D H, l[i]? = some x → J i D H → h.next ≤ H.next → @CallsH Try.prog g (#[.agg (pkE.enc x).toArray] ++ cap) H ⟨fun u H' => u = .bool (p x) ∧ H.next ≤ H'.next ∧ ∃ D', J (i + 1) D' H' ∧ (∀ d ∈ D', d ∈ D ∨ H.next ≤ d) ∧ ∀ id, id < H.next → id ∉ F → id ∉ D → H'.get id = H.get id⟩) :
    @CallsH Try.prog 46 #[.slice (some ⟨q, off, none⟩) l.length 4, .func (.func g) #[] cap] h ⟨fun u H => u = .slice (some ⟨q, off, none⟩) (l.filter (fun x => !p x)).length 4 ∧ h.next ≤ H.next ∧ (∃ D, J l.length D H) ∧
      ∃ ws, H.get q = .live (.cells ws .own) ∧ RowV pkE ws off (l.filter (fun x => !p x)) ∧ ws.length = vs.length⟩ := by
  (refine calls_of_vc [] hm Try.func46 rfl (ts := [4]) rfl (by kernel_rfl) (by simp) ?_; simp (config := { dsimp := false }) only [go_sem, reduceIte, Nat.reduceEqDiff, reduceCtorEq, Nat.reduceAdd, Nat.reduceMul, Int.reduceToNat, Int.reduceLE, Int.reduceLT, Int.reduceEq, Int.reduceNe, Nat.reduceLeDiff, Int.reducePow, Nat.reducePow, Nat.reduceLT, Nat.reduceSub, Nat.reduceMod, Nat.reduceDiv, T.ag_66, T.eb_61, T.es_61, T.ez_61, T.gf_49, T.ib_3, T.ii_61, T.ip_3, T.s8_61, T.sl_61, T.st_61, T.un_61, T.zo_66, init_a, hg])
  have hK : pkE.k = 4 := rfl
  refine (IndexPk_ph h _ l g cap p (fun i H => ∃ D, J i D H ∧ H.get q = .live (.cells vs .own) ∧ h.next ≤ H.next) hl hg ⟨D0, h0, hq, Nat.le_refl _⟩ (fun i H ⟨D, _, e, _⟩ => .inr ⟨q, off, vs, .own, rfl, e, hR⟩) (fun i x H hx _ ⟨D, hJ, e, hn⟩ => ?_)).mono fun u H ⟨hu, D, hJ, hHq, hHn⟩ => ?_
  · refine (hc i x D H hx hJ hn).mono fun u H' ⟨a1, a2, D', a3, a4, a5⟩ => ⟨a1, D', a3, ?_, by omega⟩
    rw [a5 q (by omega) hqF (fun hd => (hD _ _ _ hJ q hd).2 rfl)]; exact e
  · subst hu
    cases hfi : l.findIdx? p with
    | none =>
      have hall : ∀ (j : Nat) y, l[j]? = some y → p y = false := fun j y hy => by
        rw [List.findIdx?_eq_none_iff] at hfi; exact hfi y (List.mem_of_getElem? hy)
      have e1 : idxOf p l = -1 := idxOf_none hall
      have e2 : seen p l = l.length := seen_none hall
      have e3 : l.filter (fun x => !p x) = l := List.filter_eq_self.2 fun x hx => by
        obtain ⟨j, hj⟩ := List.getElem?_of_mem hx
        simp [hall j x hj]
      simp (config := { dsimp := false }) only [go_sem, reduceIte, Nat.reduceEqDiff, reduceCtorEq, Nat.reduceAdd, Nat.reduceMul, Int.reduceToNat, Int.reduceLE, Int.reduceLT, Int.reduceEq, Int.reduceNe, Nat.reduceLeDiff, Int.reducePow, Nat.reducePow, Nat.reduceLT, Nat.reduceSub, Nat.reduceMod, Nat.reduceDiv, T.ag_66, T.eb_61, T.es_61, T.ez_61, T.gf_49, T.ib_3, T.ii_61, T.ip_3, T.s8_61, T.sl_61, T.st_61, T.un_61, T.zo_66, e1]
      rw [e3]
      exact ⟨rfl, hHn, ⟨D, e2 ▸ hJ⟩, vs, hHq, hR, rfl⟩
    | some i0 =>
      have hfs := hfi
      rw [List.findIdx?_eq_some_iff_getElem] at hfs
      obtain ⟨hi0, hp0, hb0⟩ := hfs
      have e1 : idxOf p l = i0 := by rw [idxOf, hfi]
      have e2 : seen p l = i0 + 1 := by rw [seen, hfi]
      rw [e2] at hJ
      have hne : ((i0 : Int) = -1) = False := eq_false (by omega)
      have w0 : IntKind.i64.wrap ((i0 : Int) + 1) = ((i0 + 1 : Nat) : Int) := by rw [i64wrap] <;> omega
      simp (config := { dsimp := false }) only [go_sem, reduceIte, Nat.reduceEqDiff, reduceCtorEq, Nat.reduceAdd, Nat.reduceMul, Int.reduceToNat, Int.reduceLE, Int.reduceLT, Int.reduceEq, Int.reduceNe, Nat.reduceLeDiff, Int.reducePow, Nat.reducePow, Nat.reduceLT, Nat.reduceSub, Nat.reduceMod, Nat.reduceDiv, T.ag_66, T.eb_61, T.es_61, T.ez_61, T.gf_49, T.ib_3, T.ii_61, T.ip_3, T.s8_61, T.sl_61, T.st_61, T.un_61, T.zo_66, e1, hne, w0]
      have hft : (l.take (i0 + 1)).filter (fun x => !p x) = l.take i0 := by
        rw [List.take_succ_eq_append_getElem hi0, List.filter_append]
        have a1 : (l.take i0).filter (fun x => !p x) = l.take i0 := List.filter_eq_self.2 fun x hx => by
          obtain ⟨j, hj⟩ := List.getElem?_of_mem hx
          have hjl := (List.getElem?_eq_some_iff.1 hj)
          have hj0 : j < i0 := by have := hjl.1; simp at this; omega
          rw [List.getElem?_take_of_lt hj0] at hj
          obtain ⟨_, hj2⟩ := List.getElem?_eq_some_iff.1 hj
          have := hb0 j hj0
          rw [hj2] at this; simpa using this
        rw [a1]; simp [hp0]
      refine loop_intro [] hm (fun r H => ∃ (j : Nat) (D : List Nat) (ws : List Value) (m : List Pk), i0 + 1 ≤ j ∧ j ≤ l.length ∧ J j D H ∧ h.next ≤ H.next ∧ H.get q = .live (.cells ws .own) ∧ ws.length = vs.length ∧ RowV pkE ws off m ∧ m.length = l.length ∧
        m.take ((l.take j).filter (fun x => !p x)).length = (l.take j).filter (fun x => !p x) ∧ m.drop j = l.drop j ∧ ((l.take j).filter (fun x => !p x)).length < j ∧
        r 0 = .slice (some ⟨q, off, none⟩) l.length 4 ∧ r 1 = .func (.func g) #[] cap ∧ r 5 = .int .i64 ((l.take j).filter (fun x => !p x)).length ∧ r 6 = .int .i64 j) (fun r _ => match r 6 with | .int _ i => l.length - i.toNat | _ => 0) ?_ ?_
      · refine ⟨i0 + 1, D, vs, l, Nat.le_refl _, hi0, hJ, hHn, hHq, rfl, hR, rfl, by rw [hft]; simp, rfl, by rw [hft]; simp; omega, by simp [upd, initR], by simp [upd, initR], ?_, by simp [upd]⟩
        rw [hft]; simp [upd]; omega
      · rintro r H ⟨j, D, ws, m, hj0, hj, hJ, hHn, hHq, hws, hRm, hm1, hm2, hm3, hm4, q0, q1, q5, q6⟩
        generalize hk : ((l.take j).filter (fun x => !p x)).length = k at *
        by_cases hlt : j < l.length
        · have hlt' : ((j : Int) < (l.length : Int)) = True := eq_true (by omega)
          have hx := List.getElem?_eq_getElem hlt
          have hxm : m[j]? = some l[j] := by
            have := congrArg (fun z => z[0]?) hm3
            simp only [List.getElem?_drop, Nat.add_zero] at this
            rw [this]; exact hx
          have ha := hRm.at hxm
          have h1' : List.take 4 (List.drop (off + j * 4) ws) = pkE.enc l[j] := ha.1
          have h2' : off + j * 4 + 4 ≤ ws.length := ha.2
          have hDD := hD _ _ _ hJ
          have hcall := fun D H => hc j l[j] D H hx
          have hfn : (l.take (j + 1)).filter (fun x => !p x) = (l.take j).filter (fun x => !p x) ++ (if p l[j] then [] else [l[j]]) := by
            rw [List.take_succ_eq_append_getElem hlt, List.filter_append]
            congr 1
            by_cases hp : p l[j] = true <;> simp [hp]
          have hset := hRm.set (i := k) (by omega) l[j]
          generalize l[j] = x at hx hxm h1' hcall hfn hset
          have hxl : (pkE.enc x).length = 4 := pkE.len x
          have hx1 : (pkE.enc x).all (·.oneCell') = true := pkE.one x
          have htk : List.take 4 (pkE.enc x) = pkE.enc x := List.take_of_length_le (by omega)
          have hdk : List.drop 4 (pkE.enc x) = [] := List.drop_of_length_le (by omega)
          have w1 : IntKind.i64.wrap ((j : Int) + 1) = ((j + 1 : Nat) : Int) := by rw [i64wrap] <;> omega
          have w2 : IntKind.i64.wrap ((k : Int) + 1) = ((k + 1 : Nat) : Int) := by rw [i64wrap] <;> omega
          have hqn' : (H.next = q) = False := eq_false (by omega)
          have hqn'' : (q = H.next) = False := eq_false (by omega)
          simp (config := { dsimp := false }) only [go_sem, reduceIte, Nat.reduceEqDiff, reduceCtorEq, Nat.reduceAdd, Nat.reduceMul, Int.reduceToNat, Int.reduceLE, Int.reduceLT, Int.reduceEq, Int.reduceNe, Nat.reduceLeDiff, Int.reducePow, Nat.reducePow, Nat.reduceLT, Nat.reduceSub, Nat.reduceMod, Nat.reduceDiv, T.ag_66, T.eb_61, T.es_61, T.ez_61, T.gf_49, T.ib_3, T.ii_61, T.ip_3, T.s8_61, T.sl_61, T.st_61, T.un_61, T.zo_66, q0, q1, q5, q6, hHq, h1', hlt', hxl, hx1, htk, hdk, hqn', hg]
          refine ⟨h2', ?_⟩
          obtain ⟨H1, hH1⟩ : ∃ H1, (H.alloc (.cells [.int .i64 0, .int .i64 0, .int .i64 0, .bool false] .own)).put H.next (.live (.cells (pkE.enc x) .own)) = H1 := ⟨_, rfl⟩
          have hg1 : ∀ id, id < H.next → H1.get id = H.get id := fun id hid => by rw [← hH1, get_put, if_neg (by omega), get_alloc, if_neg (by omega)]
          have hn1 : H1.next = H.next + 1 := by rw [← hH1]; rfl
          have hgn : H1.get H.next = .live (.cells (pkE.enc x) .own) := by rw [← hH1, get_put, if_pos rfl]
          rw [hH1]
          have hJ1 : J j D H1 := hst j D H H1 hJ (by omega) fun id hid _ => hg1 id hid
          refine (hcall D H1 hJ1 (by omega)).mono fun u H2 ⟨b1, b2, D2, b3, b4, b5⟩ => ?_
          subst b1
          have hqD : q ∉ D := fun hd => (hDD q hd).2 rfl
          have hq2 : H2.get q = .live (.cells ws .own) := by rw [b5 q (by omega) hqF hqD, hg1 q (by omega)]; exact hHq
          have hv2 : H2.get H.next = .live (.cells (pkE.enc x) .own) := by
            rw [b5 H.next (by omega) (fun hf => by have := hF _ hf; omega) (fun hd => by have := (hDD _ hd).1; omega)]; exact hgn
          cases hp : p x with
          | true =>
            have hk1 : ((l.take (j + 1)).filter (fun x => !p x)) = (l.take j).filter (fun x => !p x) := by rw [hfn, hp]; simp
            simp (config := { dsimp := false }) only [go_sem, reduceIte, Nat.reduceEqDiff, reduceCtorEq, Nat.reduceAdd, Nat.reduceMul, Int.reduceToNat, Int.reduceLE, Int.reduceLT, Int.reduceEq, Int.reduceNe, Nat.reduceLeDiff, Int.reducePow, Nat.reducePow, Nat.reduceLT, Nat.reduceSub, Nat.reduceMod, Nat.reduceDiv, T.ag_66, T.eb_61, T.es_61, T.ez_61, T.gf_49, T.ib_3, T.ii_61, T.ip_3, T.s8_61, T.sl_61, T.st_61, T.un_61, T.zo_66, q0, q1, q5, q6, w1]
            refine ⟨⟨j + 1, D2, ws, m, by omega, hlt, b3, by omega, hq2, hws, hRm, hm1, by rw [hk1]; exact hk ▸ hm2, ?_, by rw [hk1, hk]; omega, by rw [hk1, hk], rfl⟩, by omega⟩
            rw [← List.drop_drop, ← List.drop_drop, hm3]
          | false =>
            have hk1 : ((l.take (j + 1)).filter (fun x => !p x)) = (l.take j).filter (fun x => !p x) ++ [x] := by rw [hfn, hp]; simp
            have hkl : (((l.take (j + 1)).filter (fun x => !p x))).length = k + 1 := by rw [hk1, List.length_append, hk]; rfl
            have hkb : off + k * 4 + 4 ≤ ws.length := by
              have hm4' : k * 4 + 4 ≤ j * 4 := by omega
              omega
            have hkl' : (0 ≤ (k : Int) ∧ (k : Int) < (l.length : Int)) = True := eq_true (by omega)
            simp (config := { dsimp := false }) only [go_sem, reduceIte, Nat.reduceEqDiff, reduceCtorEq, Nat.reduceAdd, Nat.reduceMul, Int.reduceToNat, Int.reduceLE, Int.reduceLT, Int.reduceEq, Int.reduceNe, Nat.reduceLeDiff, Int.reducePow, Nat.reducePow, Nat.reduceLT, Nat.reduceSub, Nat.reduceMod, Nat.reduceDiv, T.ag_66, T.eb_61, T.es_61, T.ez_61, T.gf_49, T.ib_3, T.ii_61, T.ip_3, T.s8_61, T.sl_61, T.st_61, T.un_61, T.zo_66, q0, q1, q5, q6, w1, w2, hv2, hq2, hxl, hx1, htk, hdk, hkl']
            refine ⟨by omega, hkb, ⟨j + 1, D2, _, m.set k x, by omega, hlt, ?_, by omega, rfl, ?_, hset, by simp [hm1], ?_, ?_, by rw [hkl]; omega, by rw [hkl], rfl⟩, by omega⟩
            · exact hst _ D2 H2 _ b3 (Nat.le_refl _) fun id hid hor => by
                rw [get_put, if_neg (fun e => ?_)]
                rcases hor with ⟨_, h2⟩ | h2
                · exact h2 e
                · exact (hD _ _ _ b3 id h2).2 e
            · rw [List.length_append, List.length_append, List.length_take, List.length_drop, hxl]; omega
            · rw [hkl, hk1, List.take_set, List.take_succ_eq_append_getElem (by omega), List.set_append_right _ _ (by simp; omega)]
              have : (m.take k).length = k := by rw [List.length_take]; omega
              rw [this, Nat.sub_self, hm2]; rfl
            · rw [List.drop_set, if_pos (by omega), ← List.drop_drop, ← List.drop_drop, hm3]
        · have hlt' : ((j : Int) < (l.length : Int)) = False := eq_false (by omega)
          obtain rfl : j = l.length := by omega
          rw [List.take_length] at hk hm2
          have b1 : ((k : Int) ≤ (l.length : Int)) = True := eq_true (by omega)
          simp (config := { dsimp := false }) only [go_sem, reduceIte, Nat.reduceEqDiff, reduceCtorEq, Nat.reduceAdd, Nat.reduceMul, Int.reduceToNat, Int.reduceLE, Int.reduceLT, Int.reduceEq, Int.reduceNe, Nat.reduceLeDiff, Int.reducePow, Nat.reducePow, Nat.reduceLT, Nat.reduceSub, Nat.reduceMod, Nat.reduceDiv, T.ag_66, T.eb_61, T.es_61, T.ez_61, T.gf_49, T.ib_3, T.ii_61, T.ip_3, T.s8_61, T.sl_61, T.st_61, T.un_61, T.zo_66, q0, q1, q5, q6, hHq, hlt', b1]
          have hs : ((l.length : Int) - (k : Int)).toNat = l.length - k := by omega
          have hkm : (l.length - k) * 4 + k * 4 = l.length * 4 := by rw [← Nat.add_mul]; congr 1; omega
          have hb := hRm.1
          rw [hm1] at hb
          have hb' : off + l.length * 4 ≤ ws.length := hb
          rw [hs]
          refine ⟨by omega, by rw [hk], hHn, ⟨D, hst _ D H _ hJ (Nat.le_refl _) fun id hid hor => ?_⟩, _, rfl, ?_, ?_⟩
          · rw [get_put, if_neg (fun e => ?_)]
            rcases hor with ⟨_, h2⟩ | h2
            · exact h2 e
            · exact (hD _ _ _ hJ id h2).2 e
          · refine (((hRm.take k (by omega)).ext hm2)).congr ?_
            rw [hk, List.append_assoc, List.take_append_of_le_length (by rw [List.length_take]; show off + k * 4 ≤ _; omega), List.take_take]
            show List.take (min (off + k * 4) (off + k * 4)) ws = List.take (off + k * 4) ws
            rw [Nat.min_self]
          · rw [List.length_append, List.length_append, List.length_take, List.length_drop, repl_length]
            simp only [List.length_cons, List.length_nil]
            omega

end Ph
