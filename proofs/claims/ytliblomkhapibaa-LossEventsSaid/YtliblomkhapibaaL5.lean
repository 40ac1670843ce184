import Derived.Test.YtliblomkhapibaaL4
set_option maxRecDepth 100000
set_option maxHeartbeats 1000000
set_option linter.unusedSimpArgs false
set_option linter.unusedVariables false
namespace Ph
open Go Go.Proofs
attribute [local irreducible] Value.cells
attribute [local go_sem ↓] y_move y_assign y_pick y_nil y_bin y_un y_fa y_field y_ext y_ia y_ix y_slice y_build y_mf y_load y_len y_min y_max y_conv y_bs y_mk y_alloc y_box y_store y_clear y_app y_callf y_callt s_move s_assign s_pick s_nil s_bin s_un s_fa s_field s_ext s_ia s_ix s_slice s_conv s_build s_bs s_mf s_alloc s_box s_load s_store s_len s_clear s_min s_max s_app s_call q_call q_move q_assign q_pick q_nil q_bin q_un q_fa q_field q_ext q_ia q_ix q_slice q_conv q_build q_mf q_load q_len q_min q_max l_nil l_move l_assign l_pick l_nilc l_bin l_un l_fa l_field l_ext l_ia l_ix l_slice l_conv l_build l_mf l_load l_len l_min l_max l_call put_eq putN_eq o_nil o_plain o_gate v_nil v_plain v_gate vc_skip vc_region vc_seq vc_cond vc_block vc_loop vc_rf vc_exit vc_ret blk_normal blk_ret blk_exit on_normal on_ret on_exit vc_drawn draw_q s_mk l_bs l_mk l_alloc l_box l_store l_app l_clear pl_done pl_takeS pl_take pl_alt pl_stop one_plain one_gate
attribute [local go_sem] clear_nil clear_sl onAgg_a onTuple_t onFn_f onFn_y onFunc_f c_int c_nil c_sl c_str sl_sl sl_nil sl_str ix_str ix_agg n_nil n_sl n_str app_eq k_nil k_sl len_sl len_str upd_some upd_none ev_tmp ev_const ev_func rd_some gdst_eq otmp_t otmp_c get_put get_alloc next_put next_alloc get_app next_app init_a resV1 resV2 onPtr_ptr onBool_b onInt_i onSlice_s onSome_s onCells_c lett_eq gate_tt gate_tf gate_ff gate_ft gate_dt gate_df also_eq bin un minmax io_none io_some bo_none bo_some partOf List.getElem?_cons_zero List.getElem?_cons_succ List.getElem?_toArray Option.map_some Option.map_none Option.bind_some ne_eq not_true_eq_false not_false_eq_true false_implies true_implies and_true true_and and_self Bool.false_eq_true Nat.zero_add Nat.add_zero List.size_toArray List.length_cons List.length_nil List.map_toArray List.map_cons List.map_nil Array.getD_eq_getD_getElem? Option.getD_some Bool.not_true Bool.not_false Bool.not_eq_true Option.isNone_some Option.isNone_none List.append_toArray List.append_nil List.nil_append List.cons_append decide_true decide_false in_nil in_cons Bool.and_false Bool.and_true Bool.or_false Bool.true_or Bool.false_or get_mask next_mask get_unmask next_unmask ac_move ac_assign ac_pick ac_nil ac_bin ac_un ac_fa ac_field ac_ext ac_ia ac_ix ac_slice ac_build ac_mf ac_call ac_load ac_conv accP_p accS_s accS_n accS_i accS_t fixed_ro fixed_lock fixed_own get_ro next_ro lock_live' lock_cells List.mem_cons List.not_mem_nil or_false false_or or_true true_or and_false false_and IntKind.bits Int.natCast_zero Int.natCast_one size_str data_str list_str mk_str ext_str app_str bytes_str w_byte w_byteu Int.toNat_natCast Int.toNat_zero Int.toNat_one Nat.sub_zero ge_iff_le gt_iff_lt Nat.le_refl Int.le_refl List.drop_zero Int.ofNat_eq_natCast Int.natCast_nonneg Int.sub_zero oc_int oc_bool oc_str oc_ptr oc_sl oc_map oc_func List.set_cons_zero List.set_cons_succ Nat.mul_one List.all_cons List.all_nil Bool.and_self res_nil res_tmp res_cell tup_one tup_two tup_nil fill_nil repl_zero cells_agg List.append_eq List.toList_toArray Nat.zero_mul Nat.one_mul repl_one repl_two onSome_build fill_cons onSome_lit splice_eq cells_int cells_bool cells_str cells_ptr cells_sl cells_map cells_func loadK_n loadK_s load_k storeK_n storeK_s store_k all_arr List.take_zero List.take_succ_cons List.drop_succ_cons List.take_nil List.drop_nil lk_own lk_ro lk_lock lk_lk fixed_lk gate_nt gate_nf gate3_b gate3_u undef Bool.true_and Bool.false_and nx_l nx_r nx_lt put_put resV0
theorem DeletePkNil_ph (h : Heap) (g : Nat) (cap : Array Value) (hg : goodFunc Try.prog g = true) :
    @CallsH Try.prog 46 #[.slice none 0 0, .func (.func g) #[] cap] h ⟨fun u H => u = .slice none 0 0 ∧ H = h⟩ := by
  (refine calls_of_vc [] hm Try.func46 rfl (ts := [4]) rfl (by kernel_rfl) (by simp) ?_; simp (config := { dsimp := false }) only [go_sem, reduceIte, Nat.reduceEqDiff, reduceCtorEq, Nat.reduceAdd, Nat.reduceMul, Int.reduceToNat, Int.reduceLE, Int.reduceLT, Int.reduceEq, Int.reduceNe, Nat.reduceLeDiff, Int.reducePow, Nat.reducePow, Nat.reduceLT, Nat.reduceSub, Nat.reduceMod, Nat.reduceDiv, T.ag_66, T.eb_61, T.es_61, T.ez_61, T.gf_49, T.ib_3, T.ii_61, T.ip_3, T.s8_61, T.sl_61, T.st_61, T.un_61, T.zo_66, init_a, hg])
  refine (IndexPk_ph h (.slice none 0 0) [] g cap (fun _ => false) (fun _ H => H = h) (by simp) hg rfl (fun i H e => .inl ⟨rfl, rfl⟩) (fun i x H hx _ e => by simp at hx)).mono fun u H ⟨hu, hH⟩ => ?_
  subst hu
  have e : idxOf (fun _ : Pk => false) [] = -1 := rfl
  simp (config := { dsimp := false }) only [go_sem, reduceIte, Nat.reduceEqDiff, reduceCtorEq, Nat.reduceAdd, Nat.reduceMul, Int.reduceToNat, Int.reduceLE, Int.reduceLT, Int.reduceEq, Int.reduceNe, Nat.reduceLeDiff, Int.reducePow, Nat.reducePow, Nat.reduceLT, Nat.reduceSub, Nat.reduceMod, Nat.reduceDiv, T.ag_66, T.eb_61, T.es_61, T.ez_61, T.gf_49, T.ib_3, T.ii_61, T.ip_3, T.s8_61, T.sl_61, T.st_61, T.un_61, T.zo_66, e]
  exact hH
def asum (l : List Pk) : Int := (l.map fun x => if x.asks then x.size else 0).sum
theorem asum_snoc (l : List Pk) (x : Pk) : asum (l ++ [x]) = asum l + if x.asks then x.size else 0 := by simp [asum]
theorem asum_le (l : List Pk) (hl : ∀ x ∈ l, 0 ≤ x.size ∧ x.size ≤ 65535) : 0 ≤ asum l ∧ asum l ≤ 65535 * l.length := by
  induction l with
  | nil => simp [asum]
  | cons x l ih =>
    have h1 := hl x (by simp)
    have h2 := ih fun y hy => hl y (by simp [hy])
    have e : asum (x :: l) = (if x.asks then x.size else 0) + asum l := by simp [asum]
    rw [e, List.length_cons]
    split <;> omega
theorem out_ph (h : Heap) (p : Nat) (D : List Nat) (wv : Value) (s : St) (gi : Nat) (capi : Array Value) (pr : Pk → Bool) (hp : h.get p = .live (.cells (stC wv s) .own)) (hO : OwnRow pkE h wv D s.waits) (hpn : p < h.next) (hpD : p ∉ D)
    (hl : s.waits.length ≤ 100000) (hsz : ∀ x ∈ s.waits, 0 ≤ x.size ∧ x.size ≤ 65535) (hfl : -1000000000000 ≤ s.flight ∧ s.flight ≤ 1000000000000) (hgi : goodFunc Try.prog gi = true)
    (his : ∀ x ∈ s.waits, ∀ (H : Heap) (f : Int), h.next ≤ H.next → (∀ id, id < h.next → id ≠ p → id ∉ D → H.get id = (h.get id).lock) → H.get p = .live (.cells (stC wv { s with flight := f }) .lock) →
      @CallsH Try.prog gi (#[.agg (pkE.enc x).toArray] ++ capi) H ⟨fun u _ => u = .bool (pr x)⟩) :
    @CallsH Try.prog 29 #[.pointer (some ⟨p, 0, none⟩), .func (.func gi) #[] capi] h ⟨fun u H => ∃ wv' D1 D2, OwnRow pkE H u D2 (s.waits.filter pr) ∧ (∀ d ∈ D2, h.next ≤ d) ∧ Upd h H (p :: D) ∧
      H.get p = .live (.cells (stC wv' { s with flight := s.flight - asum (s.waits.filter pr) }) .own) ∧ OwnRow pkE H wv' D1 (s.waits.filter fun x => !pr x) ∧ (∀ d ∈ D1, d ∈ D)⟩ := by
  have hw1 := hO.row.one
  rcases hO with ⟨rfl, hnil, rfl⟩ | ⟨q, off, vs, rfl, hq, rfl, hgq, hR⟩
  · (refine calls_of_vc [] hm Try.func29 rfl (ts := [4]) rfl (by kernel_rfl) (by simp) ?_; simp (config := { dsimp := false }) only [go_sem, reduceIte, Nat.reduceEqDiff, reduceCtorEq, Nat.reduceAdd, Nat.reduceMul, Int.reduceToNat, Int.reduceLE, Int.reduceLT, Int.reduceEq, Int.reduceNe, Nat.reduceLeDiff, Int.reducePow, Nat.reducePow, Nat.reduceLT, Nat.reduceSub, Nat.reduceMod, Nat.reduceDiv, T.ag_24, T.ag_61, T.fo_63_0, T.gf_46, T.zo_61, init_a, hgi])
    refine draw_plan [p, h.next + 1 + 1] (.takeS 1 (.takeS 2 (.takeS 3 (.takeS 4 (.takeS 5 (.take 0 (.alt 6 (.takeS 7 (.takeS 8 (.alt 9 .done .stop))) .stop))))))) hm (by kernel_rfl) (by kernel_rfl) ?_
    simp (config := { dsimp := false, maxSteps := 10000000 }) (disch := omega) only [go_sem, reduceIte, Nat.reduceEqDiff, reduceCtorEq, Nat.reduceAdd, Nat.reduceMul, Int.reduceToNat, Int.reduceLE, Int.reduceLT, Int.reduceEq, Int.reduceNe, Nat.reduceLeDiff, Int.reducePow, Nat.reducePow, Nat.reduceLT, Nat.reduceSub, Nat.reduceMod, Nat.reduceDiv, slot_neg, slot_pos, T.ag_24, T.ag_61, T.fo_63_0, T.gf_46, T.zo_61, hp, stC]
    refine ⟨by omega, (DeletePkNil_ph _ 47 _ (by kernel_rfl)).mono fun u H ⟨hu, hH⟩ => ?_⟩
    subst hu hH
    simp (config := { dsimp := false, maxSteps := 10000000 }) (disch := omega) only [go_sem, reduceIte, Nat.reduceEqDiff, reduceCtorEq, Nat.reduceAdd, Nat.reduceMul, Int.reduceToNat, Int.reduceLE, Int.reduceLT, Int.reduceEq, Int.reduceNe, Nat.reduceLeDiff, Int.reducePow, Nat.reducePow, Nat.reduceLT, Nat.reduceSub, Nat.reduceMod, Nat.reduceDiv, slot_neg, slot_pos, T.ag_24, T.ag_61, T.fo_63_0, T.gf_46, T.zo_61, hp, stC]
    rw [hnil]
    refine ⟨_, [], [], OwnRow.nil _, by simp, (((Upd.refl h [p]).allocs).allocs.allocs).unmask (Nat.le_refl _) (by simp; omega), ?_, OwnRow.nil _, by simp⟩
    simp [stC, asum]
  · have hpq : p ≠ q := by simpa using hpD
    (refine calls_of_vc [] hm Try.func29 rfl (ts := [4]) rfl (by kernel_rfl) (by simp) ?_; simp (config := { dsimp := false }) only [go_sem, reduceIte, Nat.reduceEqDiff, reduceCtorEq, Nat.reduceAdd, Nat.reduceMul, Int.reduceToNat, Int.reduceLE, Int.reduceLT, Int.reduceEq, Int.reduceNe, Nat.reduceLeDiff, Int.reducePow, Nat.reducePow, Nat.reduceLT, Nat.reduceSub, Nat.reduceMod, Nat.reduceDiv, T.ag_24, T.ag_61, T.fo_63_0, T.gf_46, T.zo_61, init_a, hgi])
    refine draw_plan [p, h.next + 1 + 1, q] (.takeS 1 (.takeS 2 (.takeS 3 (.takeS 4 (.takeS 5 (.take 0 (.alt 6 (.takeS 7 (.takeS 8 (.alt 9 .done .stop))) .stop))))))) hm (by kernel_rfl) (by kernel_rfl) ?_
    simp (config := { dsimp := false, maxSteps := 10000000 }) (disch := omega) only [go_sem, reduceIte, Nat.reduceEqDiff, reduceCtorEq, Nat.reduceAdd, Nat.reduceMul, Int.reduceToNat, Int.reduceLE, Int.reduceLT, Int.reduceEq, Int.reduceNe, Nat.reduceLeDiff, Int.reducePow, Nat.reducePow, Nat.reduceLT, Nat.reduceSub, Nat.reduceMod, Nat.reduceDiv, slot_neg, slot_pos, T.ag_24, T.ag_61, T.fo_63_0, T.gf_46, T.zo_61, hp, stC]
    obtain ⟨Hm, hHm⟩ : ∃ Hm, ((((h.alloc (.cells [.pointer (some ⟨p, 0, none⟩)] .own)).alloc (.cells [.func (.func gi) #[] capi] .own)).alloc (.cells [.slice none 0 0] .own)).mask [p, h.next + 1 + 1, q]) = Hm := ⟨_, rfl⟩
    have m0 : Hm.next = h.next + 3 := by rw [← hHm]; rfl
    have m1 : Hm.get p = .live (.cells (stC (.slice (some ⟨q, off, none⟩) s.waits.length pkE.k) s) .own) := by rw [← hHm]; simp (config := { dsimp := false }) (disch := omega) only [get_alloc, get_put, get_app, next_alloc, next_put, next_app, get_mask, get_unmask, next_mask, next_unmask, List.mem_cons, List.not_mem_nil, or_false, true_or, or_true, false_or, and_true, true_and, and_false, false_and, not_true_eq_false, not_false_eq_true, ne_eq, reduceIte, slot_neg, slot_pos]; exact hp
    have m2 : Hm.get q = .live (.cells vs .own) := by rw [← hHm]; simp (config := { dsimp := false }) (disch := omega) only [get_alloc, get_put, get_app, next_alloc, next_put, next_app, get_mask, get_unmask, next_mask, next_unmask, List.mem_cons, List.not_mem_nil, or_false, true_or, or_true, false_or, and_true, true_and, and_false, false_and, not_true_eq_false, not_false_eq_true, ne_eq, reduceIte, slot_neg, slot_pos]; exact hgq
    have m3 : Hm.get (h.next + 1 + 1) = .live (.cells [.slice none 0 0] .own) := by rw [← hHm]; simp (config := { dsimp := false }) (disch := omega) only [get_alloc, get_put, get_app, next_alloc, next_put, next_app, get_mask, get_unmask, next_mask, next_unmask, List.mem_cons, List.not_mem_nil, or_false, true_or, or_true, false_or, and_true, true_and, and_false, false_and, not_true_eq_false, not_false_eq_true, ne_eq, reduceIte, slot_neg, slot_pos]
    have m4 : Hm.get h.next = .live (.cells [.pointer (some ⟨p, 0, none⟩)] .lock) := by rw [← hHm]; simp (config := { dsimp := false }) (disch := omega) only [get_alloc, get_put, get_app, next_alloc, next_put, next_app, get_mask, get_unmask, next_mask, next_unmask, List.mem_cons, List.not_mem_nil, or_false, true_or, or_true, false_or, and_true, true_and, and_false, false_and, not_true_eq_false, not_false_eq_true, ne_eq, reduceIte, slot_neg, slot_pos]; rfl
    have m5 : Hm.get (h.next + 1) = .live (.cells [.func (.func gi) #[] capi] .lock) := by rw [← hHm]; simp (config := { dsimp := false }) (disch := omega) only [get_alloc, get_put, get_app, next_alloc, next_put, next_app, get_mask, get_unmask, next_mask, next_unmask, List.mem_cons, List.not_mem_nil, or_false, true_or, or_true, false_or, and_true, true_and, and_false, false_and, not_true_eq_false, not_false_eq_true, ne_eq, reduceIte, slot_neg, slot_pos]; rfl
    have m6 : ∀ id, id < h.next → id ≠ p → id ≠ q → Hm.get id = (h.get id).lock := fun id h1 h2 h3 => by rw [← hHm]; simp (config := { dsimp := false }) (disch := omega) only [get_alloc, get_put, get_app, next_alloc, next_put, next_app, get_mask, get_unmask, next_mask, next_unmask, List.mem_cons, List.not_mem_nil, or_false, true_or, or_true, false_or, and_true, true_and, and_false, false_and, not_true_eq_false, not_false_eq_true, ne_eq, reduceIte, slot_neg, slot_pos]
    rw [hHm]
    refine ⟨by omega, (DeletePk_ph Hm q off vs s.waits 47 _ pr [p, h.next + 1 + 1] (fun i D' H => ∃ lv, H.get (h.next + 1 + 1) = .live (.cells [lv] .own) ∧ OwnRow pkE H lv D' ((s.waits.take i).filter pr) ∧ (∀ d ∈ D', h.next + 3 ≤ d) ∧
      H.get p = .live (.cells (stC (.slice (some ⟨q, off, none⟩) s.waits.length pkE.k) { s with flight := s.flight - asum ((s.waits.take i).filter pr) }) .own) ∧ H.get h.next = .live (.cells [.pointer (some ⟨p, 0, none⟩)] .lock) ∧ H.get (h.next + 1) = .live (.cells [.func (.func gi) #[] capi] .lock) ∧
      h.next + 3 ≤ H.next ∧ ∀ id, id < h.next → id ≠ p → id ≠ q → H.get id = (h.get id).lock) [] (by omega) (by kernel_rfl) m2 hR (by omega) (by simp; omega) ?_ (by simp; omega) ?_ ?_ ?_).mono fun u H ⟨hu, hn, ⟨D', lv, j1, j2, j3, j4, j5, j6, j8, j7⟩, ws, hws, hRw, _⟩ => ?_⟩
    · exact ⟨_, m3, OwnRow.nil _, by simp, by simpa [asum] using m1, m4, m5, by omega, m6⟩
    · rintro i D' H ⟨lv, j1, j2, j3, _⟩ d hd
      exact ⟨j2.lt d hd, by have := j3 d hd; omega⟩
    · rintro i D' H H' ⟨lv, j1, j2, j3, j4, j5, j6, j8, j7⟩ hn hk
      have hDl := j2.lt
      refine ⟨lv, (hk _ (by omega) (.inl ⟨by omega, by omega⟩)).trans j1, j2.keep hn fun d hd => hk d (hDl d hd) (.inr hd), j3, (hk _ (by omega) (.inl ⟨by omega, hpq⟩)).trans j4, (hk _ (by omega) (.inl ⟨by omega, by omega⟩)).trans j5, (hk _ (by omega) (.inl ⟨by omega, by omega⟩)).trans j6, by omega, fun id h1 h2 h3 => (hk _ (by omega) (.inl ⟨by omega, h3⟩)).trans (j7 id h1 h2 h3)⟩
    · rintro i x D' H hx ⟨lv, j1, j2, j3, j4, j5, j6, j8, j7⟩ hn
      have hxm := List.mem_of_getElem? hx
      have hsx := hsz x hxm
      have hi := (List.getElem?_eq_some_iff.1 hx).1
      have hfl2 := asum_le ((s.waits.take i).filter pr) fun y hy => hsz y (List.mem_of_mem_take (List.mem_filter.1 hy).1)
      have hfl3 : ((s.waits.take i).filter pr).length ≤ 100000 := Nat.le_trans (List.length_filter_le _ _) (by rw [List.length_take]; omega)
      refine (outf1_ph H (h.next + 1) (h.next + 1 + 1) h.next p x gi capi (pr x) lv _ D' _ _ _ _ j6 j1 j5 j4 j2 hfl3 hgi ⟨by omega, by omega, by omega, by omega⟩ ⟨by omega, by omega, by omega⟩ ⟨fun hd => by have := j3 _ hd; omega, fun hd => by have := j3 _ hd; omega, fun hd => by have := j3 _ hd; omega⟩ (by simp only; omega) ?_).mono fun u H' ⟨b1, b2, lv', D2, b3, b4, b5, b6⟩ => ?_
      · refine his x hxm _ (s.flight - asum ((s.waits.take i).filter pr)) (by rw [next_ro, next_alloc]; omega) (fun id h1 h2 h3 => ?_) ?_
        · rw [get_ro, get_alloc, if_neg (by omega), j7 id h1 h2 (by simpa using h3), lock_lock]
        · rw [get_ro, get_alloc, if_neg (by omega), j4]; rfl
      · have hfn : (s.waits.take (i + 1)).filter pr = if pr x then (s.waits.take i).filter pr ++ [x] else (s.waits.take i).filter pr := by
          rw [take_next hx, List.filter_append]
          cases hp : pr x <;> simp [hp]
        have hfa : s.flight - asum ((s.waits.take (i + 1)).filter pr) = if pr x && x.asks then s.flight - asum ((s.waits.take i).filter pr) - x.size else s.flight - asum ((s.waits.take i).filter pr) := by
          rw [hfn]
          cases hp : pr x <;> simp
          rw [asum_snoc]
          cases ha : x.asks <;> simp <;> omega
        have hDn : ∀ id, id < h.next + 3 → id ∉ D' := fun id hid hd => by have := j3 id hd; omega
        have hb2 : ∀ id, id < H.next → id ≠ h.next + 1 + 1 → id ≠ p → id ∉ D' → H'.get id = H.get id := fun id h1 h2 h3 h4 => b2.2 id h1 (by simp [h2, h3, h4])
        exact ⟨b1, b2.1, D2, ⟨lv', b3, by rw [hfn]; exact b4, fun d hd => (b5 d hd).elim (j3 d) (by omega), by rw [hfa]; exact b6, (hb2 _ (by omega) (by omega) (by omega) (hDn _ (by omega))).trans j5, (hb2 _ (by omega) (by omega) (by omega) (hDn _ (by omega))).trans j6, by have := b2.1; omega,
          fun id h1 h2 h3 => (hb2 _ (by omega) (by omega) h2 (hDn _ (by omega))).trans (j7 id h1 h2 h3)⟩, b5, fun id h1 h2 h3 => hb2 id h1 (fun e => h2 (by simp [e])) (fun e => h2 (by simp [e])) h3⟩
    · subst hu
      simp (config := { dsimp := false, maxSteps := 10000000 }) (disch := omega) only [go_sem, reduceIte, Nat.reduceEqDiff, reduceCtorEq, Nat.reduceAdd, Nat.reduceMul, Int.reduceToNat, Int.reduceLE, Int.reduceLT, Int.reduceEq, Int.reduceNe, Nat.reduceLeDiff, Int.reducePow, Nat.reducePow, Nat.reduceLT, Nat.reduceSub, Nat.reduceMod, Nat.reduceDiv, slot_neg, slot_pos, T.ag_24, T.ag_61, T.fo_63_0, T.gf_46, T.zo_61, j1, j4, hws, stC]
      rw [List.take_length] at j2 ⊢
      refine ⟨_, [q], D', j2.keep ?_ fun d hd => ?_, fun d hd => by have := j3 d hd; omega, (((Upd.refl h [p, q]).allocs).allocs.allocs).unmask ?_ (by simp; omega), rfl, ?_, by simp⟩
      · simp (config := { dsimp := false }) (disch := omega) only [get_alloc, get_put, get_app, next_alloc, next_put, next_app, get_mask, get_unmask, next_mask, next_unmask, List.mem_cons, List.not_mem_nil, or_false, true_or, or_true, false_or, and_true, true_and, and_false, false_and, not_true_eq_false, not_false_eq_true, ne_eq, reduceIte, slot_neg, slot_pos]; exact Nat.le_refl _
      · have h3 := j3 d hd
        have h4 := j2.lt d hd
        simp (config := { dsimp := false }) (disch := omega) only [get_alloc, get_put, get_app, next_alloc, next_put, next_app, get_mask, get_unmask, next_mask, next_unmask, List.mem_cons, List.not_mem_nil, or_false, true_or, or_true, false_or, and_true, true_and, and_false, false_and, not_true_eq_false, not_false_eq_true, ne_eq, reduceIte, slot_neg, slot_pos]
      · simp (config := { dsimp := false }) (disch := omega) only [get_alloc, get_put, get_app, next_alloc, next_put, next_app, get_mask, get_unmask, next_mask, next_unmask, List.mem_cons, List.not_mem_nil, or_false, true_or, or_true, false_or, and_true, true_and, and_false, false_and, not_true_eq_false, not_false_eq_true, ne_eq, reduceIte, slot_neg, slot_pos]; omega
      · refine .inr ⟨q, off, ws, rfl, ?_, rfl, ?_, hRw⟩
        · simp (config := { dsimp := false }) (disch := omega) only [get_alloc, get_put, get_app, next_alloc, next_put, next_app, get_mask, get_unmask, next_mask, next_unmask, List.mem_cons, List.not_mem_nil, or_false, true_or, or_true, false_or, and_true, true_and, and_false, false_and, not_true_eq_false, not_false_eq_true, ne_eq, reduceIte, slot_neg, slot_pos]; omega
        · simp (config := { dsimp := false }) (disch := omega) only [get_alloc, get_put, get_app, next_alloc, next_put, next_app, get_mask, get_unmask, next_mask, next_unmask, List.mem_cons, List.not_mem_nil, or_false, true_or, or_true, false_or, and_true, true_and, and_false, false_and, not_true_eq_false, not_false_eq_true, ne_eq, reduceIte, slot_neg, slot_pos]; exact hws
end Ph
