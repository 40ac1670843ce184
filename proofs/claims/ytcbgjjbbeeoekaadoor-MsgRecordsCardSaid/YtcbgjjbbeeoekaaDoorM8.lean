import Derived.Test.YtcbgjjbbeeoekaaDoorM7
set_option maxRecDepth 100000
set_option maxHeartbeats 4000000
set_option linter.unusedSimpArgs false
set_option linter.unusedVariables false
namespace Ph
open Go Go.Proofs
attribute [local irreducible] Value.cells
attribute [local go_sem ↓] y_move y_assign y_pick y_nil y_bin y_un y_fa y_field y_ext y_ia y_ix y_slice y_build y_mf y_rg y_nx y_en y_mm y_lk y_mu y_del y_load y_len y_cap y_min y_max y_conv y_bs y_mk y_alloc y_box y_store y_clear y_app y_callf y_callt s_move s_assign s_pick s_nil s_bin s_un s_fa s_field s_ext s_ia s_ix s_slice s_conv s_build s_bs s_mf s_alloc s_box s_rg s_nx s_en s_mm s_lk s_mu s_del s_load s_store s_len s_clear s_cap s_min s_max s_app s_call q_call q_move q_assign q_pick q_nil q_bin q_un q_fa q_field q_ext q_ia q_ix q_slice q_conv q_build q_mf q_lk q_load q_len q_cap q_min q_max l_nil l_move l_assign l_pick l_nilc l_bin l_un l_fa l_field l_ext l_ia l_ix l_slice l_conv l_build l_mf l_lk l_load l_len l_cap l_min l_max l_call put_eq putN_eq o_nil o_plain o_gate v_nil v_plain v_gate vc_skip vc_region vc_seq vc_cond vc_block vc_loop vc_rf vc_exit vc_ret blk_normal blk_ret blk_exit on_normal on_ret on_exit vc_drawn draw_q s_mk l_bs l_mk l_rg l_nx l_en l_mm l_mu l_del l_alloc l_box l_store l_app l_clear pl_done pl_takeS pl_take pl_alt pl_stop one_plain one_gate
attribute [local go_sem] clear_nil clear_sl onAgg_a onTuple_t onFn_f onFn_y onFunc_f c_int c_nil c_sl c_str sl_sl sl_nil sl_str ix_str ix_agg n_nil n_sl n_str app_eq app_eqZ k_nil k_sl cap_n len_sl len_str len_mn len_m onMap_m onIter_i rg_n rg_m nx_p en_p lk_n lk_m up_m setM_n setM_s del_n del_m kt_s kt_i upd_some upd_none ev_tmp ev_const ev_func rd_some gdst_eq otmp_t otmp_c get_put get_alloc next_put next_alloc get_app next_app init_a resV1 resV2 onPtr_ptr onBool_b onInt_i onSlice_s onSome_s onCells_c lett_eq gate_tt gate_tf gate_ff gate_ft gate_dt gate_df also_eq bin un minmax io_none io_some bo_none bo_some partOf List.getElem?_cons_zero List.getElem?_cons_succ List.getElem?_toArray Option.map_some Option.map_none Option.bind_some ne_eq not_true_eq_false not_false_eq_true false_implies true_implies and_true true_and and_self Bool.false_eq_true Nat.zero_add Nat.add_zero List.size_toArray List.length_cons List.length_nil List.map_toArray List.map_cons List.map_nil Array.getD_eq_getD_getElem? Option.getD_some Bool.not_true Bool.not_false Bool.not_eq_true Option.isNone_some Option.isNone_none List.append_toArray List.append_nil List.nil_append List.cons_append decide_true decide_false in_nil in_cons Bool.and_false Bool.and_true Bool.or_false Bool.true_or Bool.false_or get_mask next_mask get_unmask next_unmask ac_move ac_assign ac_pick ac_nil ac_bin ac_un ac_fa ac_field ac_ext ac_ia ac_ix ac_slice ac_build ac_mf ac_call ac_len ac_lk ac_cap ac_min ac_max accM_m accM_n accM_s accM_t ac_load ac_conv accP_p accS_s accS_n accS_i accS_t fixed_ro fixed_lock fixed_own get_ro next_ro lock_live' lock_cells List.mem_cons List.not_mem_nil or_false false_or or_true true_or and_false false_and IntKind.bits Int.natCast_zero Int.natCast_one size_str data_str list_str mk_str ext_str app_str bytes_str w_byte w_byteu Int.toNat_natCast Int.toNat_zero Int.toNat_one Nat.sub_zero ge_iff_le gt_iff_lt Nat.le_refl Int.le_refl List.drop_zero Int.ofNat_eq_natCast Int.natCast_nonneg Int.sub_zero oc_int oc_bool oc_str oc_ptr oc_sl oc_map oc_func List.set_cons_zero List.set_cons_succ Nat.mul_one List.all_cons List.all_nil Bool.and_self res_nil res_tmp res_cell tup_one tup_two tup_nil fill_nil repl_zero cells_agg List.append_eq List.toList_toArray Nat.zero_mul Nat.one_mul repl_one repl_two onSome_build fill_cons onSome_lit splice_eq cells_int cells_bool cells_str cells_ptr cells_sl cells_map cells_func loadK_n loadK_s load_k storeK_n storeK_s store_k all_arr List.take_zero List.take_succ_cons List.drop_succ_cons List.take_nil List.drop_nil lk_own lk_ro lk_lock lk_lk fixed_lk gate_nt gate_nf gate3_b gate3_u undef Bool.true_and Bool.false_and nx_l nx_r nx_lt put_put resV0
attribute [local go_sem] str_inj size_str
/-! The records of all sections; what a message must be. -/
def idxOf {α : Type} (p : α → Bool) (l : List α) : Int := match l.findIdx? p with | some i => i | none => -1
def seen {α : Type} (p : α → Bool) (l : List α) : Nat := match l.findIdx? p with | some i => i + 1 | none => l.length
theorem find_lt {α : Type} {p : α → Bool} {l : List α} {i : Nat} {x : α} (hx : l[i]? = some x) (hp : p x = true) (hn : ∀ (j : Nat) y, j < i → l[j]? = some y → p y = false) : l.findIdx? p = some i := by
  have hi := List.getElem?_eq_some_iff.1 hx
  rw [List.findIdx?_eq_some_iff_getElem]
  refine ⟨hi.1, by rw [hi.2]; exact hp, fun j hj => ?_⟩
  have := hn j (l[j]'(Nat.lt_trans hj hi.1)) hj (List.getElem?_eq_getElem _)
  rw [this]; simp
theorem find_none {α : Type} {p : α → Bool} {l : List α} (hn : ∀ (j : Nat) y, l[j]? = some y → p y = false) : l.findIdx? p = none := by
  rw [List.findIdx?_eq_none_iff]
  intro x hx
  obtain ⟨j, hj⟩ := List.getElem?_of_mem hx
  exact hn j x hj
theorem idxOf_lt {α : Type} {p : α → Bool} {l : List α} {i : Nat} {x : α} (hx : l[i]? = some x) (hp : p x = true) (hn : ∀ (j : Nat) y, j < i → l[j]? = some y → p y = false) : idxOf p l = i := by
  rw [idxOf, find_lt hx hp hn]
theorem idxOf_none {α : Type} {p : α → Bool} {l : List α} (hn : ∀ (j : Nat) y, l[j]? = some y → p y = false) : idxOf p l = -1 := by
  rw [idxOf, find_none hn]
theorem seen_lt {α : Type} {p : α → Bool} {l : List α} {i : Nat} {x : α} (hx : l[i]? = some x) (hp : p x = true) (hn : ∀ (j : Nat) y, j < i → l[j]? = some y → p y = false) : seen p l = i + 1 := by
  rw [seen, find_lt hx hp hn]
theorem seen_none {α : Type} {p : α → Bool} {l : List α} (hn : ∀ (j : Nat) y, l[j]? = some y → p y = false) : seen p l = l.length := by
  rw [seen, find_none hn]
theorem any_idx {α : Type} {p : α → Bool} {l : List α} : decide (0 ≤ idxOf p l) = l.any p := by
  rw [idxOf]
  cases h : l.findIdx? p with
  | none =>
    rw [List.findIdx?_eq_none_iff] at h
    have : l.any p = false := List.any_eq_false.2 fun x hx => by rw [h x hx]; simp
    rw [this]; rfl
  | some i =>
    rw [List.findIdx?_eq_some_iff_getElem] at h
    obtain ⟨hi, hp, _⟩ := h
    have : l.any p = true := List.any_eq_true.2 ⟨_, List.getElem_mem hi, hp⟩
    rw [this]; simp
def qE : Enc Qst := ⟨2, fun q => [.string (str q.1), .int .i64 q.2], fun _ => rfl, fun _ => rfl⟩
/-- slices.IndexFunc: what is asked may do something -/
theorem IndexQ_ph (h : Heap) (v : Value) (l : List Qst) (g : Nat) (cap : Array Value) (p : Qst → Bool) (J : Nat → Heap → Prop) (hl : l.length < 9223372036854775807) (hg : goodFunc Tryd.prog g = true)
    (h0 : J 0 h) (hrow : ∀ i H, J i H → RowIn qE H v l)
    (hc : ∀ (i : Nat) (x : Qst) (H : Heap), l[i]? = some x → (∀ (j : Nat) y, j < i → l[j]? = some y → p y = false) → J i H → @CallsH Tryd.prog g (#[.agg (qE.enc x).toArray] ++ cap) H ⟨fun u H' => u = .bool (p x) ∧ J (i + 1) H'⟩) :
    @CallsH Tryd.prog 41 #[v, .func (.func g) #[] cap] h ⟨fun u H => u = .int .i64 (idxOf p l) ∧ J (seen p l) H⟩ := by
  obtain ⟨A, st, hv⟩ : ∃ A st, v = .slice A l.length st := by rcases hrow 0 h h0 with ⟨rfl, rfl⟩ | ⟨q, off, vs, o, rfl, _, _⟩ <;> exact ⟨_, _, rfl⟩
  (refine calls_of_vc [] hm Tryd.func41 rfl (ts := [4]) rfl (by kernel_rfl) (by simp) ?_; simp (config := { dsimp := false }) only [go_sem, reduceIte, Nat.reduceEqDiff, reduceCtorEq, Nat.reduceAdd, Nat.reduceMul, Int.reduceToNat, Int.reduceLE, Int.reduceLT, Int.reduceEq, Int.reduceNe, Nat.reduceLeDiff, Int.reducePow, Nat.reducePow, Nat.reduceLT, Nat.reduceSub, Nat.reduceMod, Nat.reduceDiv, T.ag_36, T.es_37, T.ib_3, T.ii_37, T.ip_3, T.s8_37, T.sl_37, T.st_37, T.un_37, init_a, hv])
  refine loop_intro [] hm (fun r H => ∃ i : Nat, i ≤ l.length ∧ J i H ∧ r 0 = v ∧ r 1 = .func (.func g) #[] cap ∧ r 7 = .int .i64 l.length ∧ r 8 = .int .i64 i ∧ ∀ (j : Nat) y, j < i → l[j]? = some y → p y = false) (fun r _ => match r 8 with | .int _ i => l.length - i.toNat | _ => 0) ?_ ?_
  · exact ⟨0, by omega, h0, by simp [upd, initR, hv], by simp [upd, initR], by simp [upd], by simp [upd], fun j y hj => by omega⟩
  · rintro r H ⟨i, hi, hJ, q0, q1, q7, q8, hn⟩
    by_cases hlt : i < l.length
    · have hx := List.getElem?_eq_getElem hlt
      rcases hrow i H hJ with ⟨_, hnil⟩ | ⟨q, off, vs, o, hv', hq, hR⟩
      · rw [hnil] at hlt; simp at hlt
      · rw [hv'] at q0
        have ha := (hR.at hx)
        have h1' : List.take 2 (List.drop (off + i * 2) vs) = qE.enc l[i] := ha.1
        have h2' : off + i * 2 + 2 ≤ vs.length := ha.2
        have hlt' : ((i : Int) < (l.length : Int)) = True := eq_true (by omega)
        have hcall := hc i l[i] H hx hn hJ
        generalize l[i] = x at hx h1' hcall
        simp (config := { dsimp := false }) only [go_sem, reduceIte, Nat.reduceEqDiff, reduceCtorEq, Nat.reduceAdd, Nat.reduceMul, Int.reduceToNat, Int.reduceLE, Int.reduceLT, Int.reduceEq, Int.reduceNe, Nat.reduceLeDiff, Int.reducePow, Nat.reducePow, Nat.reduceLT, Nat.reduceSub, Nat.reduceMod, Nat.reduceDiv, T.ag_36, T.es_37, T.ib_3, T.ii_37, T.ip_3, T.s8_37, T.sl_37, T.st_37, T.un_37, q0, q1, q7, q8, hq, h1', h2', hlt', hg]
        have e : (#[Value.agg (qE.enc x).toArray] ++ cap) = #[Value.agg (qE.enc x).toArray] ++ cap := rfl
        refine ⟨rfl, hcall.mono fun u H' ⟨hu, hJ'⟩ => ?_⟩
        cases hp : p x with
        | true =>
          rw [hp] at hu
          simp (config := { dsimp := false }) only [go_sem, reduceIte, Nat.reduceEqDiff, reduceCtorEq, Nat.reduceAdd, Nat.reduceMul, Int.reduceToNat, Int.reduceLE, Int.reduceLT, Int.reduceEq, Int.reduceNe, Nat.reduceLeDiff, Int.reducePow, Nat.reducePow, Nat.reduceLT, Nat.reduceSub, Nat.reduceMod, Nat.reduceDiv, T.ag_36, T.es_37, T.ib_3, T.ii_37, T.ip_3, T.s8_37, T.sl_37, T.st_37, T.un_37, q0, q1, q7, q8, hu]
          exact ⟨(idxOf_lt hx hp hn).symm ▸ rfl, by rw [seen_lt hx hp hn]; exact hJ'⟩
        | false =>
          rw [hp] at hu
          have w1 : IntKind.i64.wrap ((i : Int) + 1) = ((i + 1 : Nat) : Int) := by rw [i64wrap] <;> omega
          simp (config := { dsimp := false }) only [go_sem, reduceIte, Nat.reduceEqDiff, reduceCtorEq, Nat.reduceAdd, Nat.reduceMul, Int.reduceToNat, Int.reduceLE, Int.reduceLT, Int.reduceEq, Int.reduceNe, Nat.reduceLeDiff, Int.reducePow, Nat.reducePow, Nat.reduceLT, Nat.reduceSub, Nat.reduceMod, Nat.reduceDiv, T.ag_36, T.es_37, T.ib_3, T.ii_37, T.ip_3, T.s8_37, T.sl_37, T.st_37, T.un_37, q0, q1, q7, q8, hu, w1]
          refine ⟨⟨i + 1, hlt, hJ', hv'.symm, rfl, fun j y hj hy => ?_⟩, by omega⟩
          by_cases e2 : j = i
          · subst e2; rw [hx] at hy; cases hy; exact hp
          · exact hn j y (by omega) hy
    · have hlt' : ((i : Int) < (l.length : Int)) = False := eq_false (by omega)
      simp (config := { dsimp := false }) only [go_sem, reduceIte, Nat.reduceEqDiff, reduceCtorEq, Nat.reduceAdd, Nat.reduceMul, Int.reduceToNat, Int.reduceLE, Int.reduceLT, Int.reduceEq, Int.reduceNe, Nat.reduceLeDiff, Int.reducePow, Nat.reducePow, Nat.reduceLT, Nat.reduceSub, Nat.reduceMod, Nat.reduceDiv, T.ag_36, T.es_37, T.ib_3, T.ii_37, T.ip_3, T.s8_37, T.sl_37, T.st_37, T.un_37, q0, q1, q7, q8, hlt']
      have hall : ∀ (j : Nat) y, l[j]? = some y → p y = false := fun j y hy => hn j y (by have := (List.getElem?_eq_some_iff.1 hy).1; omega) hy
      have e3 : i = l.length := by omega
      exact ⟨(idxOf_none hall).symm ▸ rfl, by rw [seen_none hall, ← e3]; exact hJ⟩

/-- slices.IndexFunc: what is asked may do something -/
theorem IndexR_ph (h : Heap) (v : Value) (l : List Rec) (g : Nat) (cap : Array Value) (p : Rec → Bool) (J : Nat → Heap → Prop) (hl : l.length < 9223372036854775807) (hg : goodFunc Tryd.prog g = true)
    (h0 : J 0 h) (hrow : ∀ i H, J i H → RowIn recE H v l)
    (hc : ∀ (i : Nat) (x : Rec) (H : Heap), l[i]? = some x → (∀ (j : Nat) y, j < i → l[j]? = some y → p y = false) → J i H → @CallsH Tryd.prog g (#[.agg (recE.enc x).toArray] ++ cap) H ⟨fun u H' => u = .bool (p x) ∧ J (i + 1) H'⟩) :
    @CallsH Tryd.prog 42 #[v, .func (.func g) #[] cap] h ⟨fun u H => u = .int .i64 (idxOf p l) ∧ J (seen p l) H⟩ := by
  obtain ⟨A, st, hv⟩ : ∃ A st, v = .slice A l.length st := by rcases hrow 0 h h0 with ⟨rfl, rfl⟩ | ⟨q, off, vs, o, rfl, _, _⟩ <;> exact ⟨_, _, rfl⟩
  (refine calls_of_vc [] hm Tryd.func42 rfl (ts := [4]) rfl (by kernel_rfl) (by simp) ?_; simp (config := { dsimp := false }) only [go_sem, reduceIte, Nat.reduceEqDiff, reduceCtorEq, Nat.reduceAdd, Nat.reduceMul, Int.reduceToNat, Int.reduceLE, Int.reduceLT, Int.reduceEq, Int.reduceNe, Nat.reduceLeDiff, Int.reducePow, Nat.reducePow, Nat.reduceLT, Nat.reduceSub, Nat.reduceMod, Nat.reduceDiv, T.ag_23, T.es_38, T.ib_3, T.ii_38, T.ip_3, T.s8_38, T.sl_38, T.st_38, T.un_38, init_a, hv])
  refine loop_intro [] hm (fun r H => ∃ i : Nat, i ≤ l.length ∧ J i H ∧ r 0 = v ∧ r 1 = .func (.func g) #[] cap ∧ r 7 = .int .i64 l.length ∧ r 8 = .int .i64 i ∧ ∀ (j : Nat) y, j < i → l[j]? = some y → p y = false) (fun r _ => match r 8 with | .int _ i => l.length - i.toNat | _ => 0) ?_ ?_
  · exact ⟨0, by omega, h0, by simp [upd, initR, hv], by simp [upd, initR], by simp [upd], by simp [upd], fun j y hj => by omega⟩
  · rintro r H ⟨i, hi, hJ, q0, q1, q7, q8, hn⟩
    by_cases hlt : i < l.length
    · have hx := List.getElem?_eq_getElem hlt
      rcases hrow i H hJ with ⟨_, hnil⟩ | ⟨q, off, vs, o, hv', hq, hR⟩
      · rw [hnil] at hlt; simp at hlt
      · rw [hv'] at q0
        have ha := (hR.at hx)
        have h1' : List.take 4 (List.drop (off + i * 4) vs) = recE.enc l[i] := ha.1
        have h2' : off + i * 4 + 4 ≤ vs.length := ha.2
        have hlt' : ((i : Int) < (l.length : Int)) = True := eq_true (by omega)
        have hcall := hc i l[i] H hx hn hJ
        generalize l[i] = x at hx h1' hcall
        simp (config := { dsimp := false }) only [go_sem, reduceIte, Nat.reduceEqDiff, reduceCtorEq, Nat.reduceAdd, Nat.reduceMul, Int.reduceToNat, Int.reduceLE, Int.reduceLT, Int.reduceEq, Int.reduceNe, Nat.reduceLeDiff, Int.reducePow, Nat.reducePow, Nat.reduceLT, Nat.reduceSub, Nat.reduceMod, Nat.reduceDiv, T.ag_23, T.es_38, T.ib_3, T.ii_38, T.ip_3, T.s8_38, T.sl_38, T.st_38, T.un_38, q0, q1, q7, q8, hq, h1', h2', hlt', hg]
        have e : (#[Value.agg (recE.enc x).toArray] ++ cap) = #[Value.agg (recE.enc x).toArray] ++ cap := rfl
        refine ⟨rfl, hcall.mono fun u H' ⟨hu, hJ'⟩ => ?_⟩
        cases hp : p x with
        | true =>
          rw [hp] at hu
          simp (config := { dsimp := false }) only [go_sem, reduceIte, Nat.reduceEqDiff, reduceCtorEq, Nat.reduceAdd, Nat.reduceMul, Int.reduceToNat, Int.reduceLE, Int.reduceLT, Int.reduceEq, Int.reduceNe, Nat.reduceLeDiff, Int.reducePow, Nat.reducePow, Nat.reduceLT, Nat.reduceSub, Nat.reduceMod, Nat.reduceDiv, T.ag_23, T.es_38, T.ib_3, T.ii_38, T.ip_3, T.s8_38, T.sl_38, T.st_38, T.un_38, q0, q1, q7, q8, hu]
          exact ⟨(idxOf_lt hx hp hn).symm ▸ rfl, by rw [seen_lt hx hp hn]; exact hJ'⟩
        | false =>
          rw [hp] at hu
          have w1 : IntKind.i64.wrap ((i : Int) + 1) = ((i + 1 : Nat) : Int) := by rw [i64wrap] <;> omega
          simp (config := { dsimp := false }) only [go_sem, reduceIte, Nat.reduceEqDiff, reduceCtorEq, Nat.reduceAdd, Nat.reduceMul, Int.reduceToNat, Int.reduceLE, Int.reduceLT, Int.reduceEq, Int.reduceNe, Nat.reduceLeDiff, Int.reducePow, Nat.reducePow, Nat.reduceLT, Nat.reduceSub, Nat.reduceMod, Nat.reduceDiv, T.ag_23, T.es_38, T.ib_3, T.ii_38, T.ip_3, T.s8_38, T.sl_38, T.st_38, T.un_38, q0, q1, q7, q8, hu, w1]
          refine ⟨⟨i + 1, hlt, hJ', hv'.symm, rfl, fun j y hj hy => ?_⟩, by omega⟩
          by_cases e2 : j = i
          · subst e2; rw [hx] at hy; cases hy; exact hp
          · exact hn j y (by omega) hy
    · have hlt' : ((i : Int) < (l.length : Int)) = False := eq_false (by omega)
      simp (config := { dsimp := false }) only [go_sem, reduceIte, Nat.reduceEqDiff, reduceCtorEq, Nat.reduceAdd, Nat.reduceMul, Int.reduceToNat, Int.reduceLE, Int.reduceLT, Int.reduceEq, Int.reduceNe, Nat.reduceLeDiff, Int.reducePow, Nat.reducePow, Nat.reduceLT, Nat.reduceSub, Nat.reduceMod, Nat.reduceDiv, T.ag_23, T.es_38, T.ib_3, T.ii_38, T.ip_3, T.s8_38, T.sl_38, T.st_38, T.un_38, q0, q1, q7, q8, hlt']
      have hall : ∀ (j : Nat) y, l[j]? = some y → p y = false := fun j y hy => hn j y (by have := (List.getElem?_eq_some_iff.1 hy).1; omega) hy
      have e3 : i = l.length := by omega
      exact ⟨(idxOf_none hall).symm ▸ rfl, by rw [seen_none hall, ← e3]; exact hJ⟩

/-- slices.ContainsFunc: what is asked only looks -/
theorem ContainsQ_ph (h : Heap) (v : Value) (l : List Qst) (g : Nat) (cap : Array Value) (p : Qst → Bool) (hl : l.length < 9223372036854775807) (hg : goodFunc Tryd.prog g = true)
    (hrow : RowIn qE h v l) (hc : ∀ x ∈ l, @CallsH Tryd.prog g (#[.agg (qE.enc x).toArray] ++ cap) h.ro ⟨fun u _ => u = .bool (p x)⟩) :
    @CallsH Tryd.prog 30 #[v, .func (.func g) #[] cap] h ⟨fun u H => u = .bool (l.any p) ∧ H = h⟩ := by
  (refine calls_of_vc [] hm Tryd.func30 rfl (ts := [4]) rfl (by kernel_rfl) (by simp) ?_; simp (config := { dsimp := false }) only [go_sem, reduceIte, Nat.reduceEqDiff, reduceCtorEq, Nat.reduceAdd, Nat.reduceMul, Int.reduceToNat, Int.reduceLE, Int.reduceLT, Int.reduceEq, Int.reduceNe, Nat.reduceLeDiff, Int.reducePow, Nat.reducePow, Nat.reduceLT, Nat.reduceSub, Nat.reduceMod, Nat.reduceDiv, T.gf_41, T.ib_3, T.ip_3, init_a, hg])
  refine (IndexQ_ph h v l g cap p (fun _ H => H = h) hl hg rfl (fun i H e => e ▸ hrow) (fun i x H hx _ e => ?_)).mono fun u H ⟨hu, hH⟩ => ?_
  · subst e
    exact CallsH.pure _ rfl (hc x (List.mem_of_getElem? hx)) ⟨rfl, rfl⟩
  · subst hu
    simp (config := { dsimp := false }) only [go_sem, reduceIte, Nat.reduceEqDiff, reduceCtorEq, Nat.reduceAdd, Nat.reduceMul, Int.reduceToNat, Int.reduceLE, Int.reduceLT, Int.reduceEq, Int.reduceNe, Nat.reduceLeDiff, Int.reducePow, Nat.reducePow, Nat.reduceLT, Nat.reduceSub, Nat.reduceMod, Nat.reduceDiv, T.gf_41, T.ib_3, T.ip_3]
    exact ⟨by rw [any_idx], hH⟩

/-- slices.ContainsFunc: what is asked only looks -/
theorem ContainsR_ph (h : Heap) (v : Value) (l : List Rec) (g : Nat) (cap : Array Value) (p : Rec → Bool) (hl : l.length < 9223372036854775807) (hg : goodFunc Tryd.prog g = true)
    (hrow : RowIn recE h v l) (hc : ∀ x ∈ l, @CallsH Tryd.prog g (#[.agg (recE.enc x).toArray] ++ cap) h.ro ⟨fun u _ => u = .bool (p x)⟩) :
    @CallsH Tryd.prog 32 #[v, .func (.func g) #[] cap] h ⟨fun u H => u = .bool (l.any p) ∧ H = h⟩ := by
  (refine calls_of_vc [] hm Tryd.func32 rfl (ts := [4]) rfl (by kernel_rfl) (by simp) ?_; simp (config := { dsimp := false }) only [go_sem, reduceIte, Nat.reduceEqDiff, reduceCtorEq, Nat.reduceAdd, Nat.reduceMul, Int.reduceToNat, Int.reduceLE, Int.reduceLT, Int.reduceEq, Int.reduceNe, Nat.reduceLeDiff, Int.reducePow, Nat.reducePow, Nat.reduceLT, Nat.reduceSub, Nat.reduceMod, Nat.reduceDiv, T.gf_42, T.ib_3, T.ip_3, init_a, hg])
  refine (IndexR_ph h v l g cap p (fun _ H => H = h) hl hg rfl (fun i H e => e ▸ hrow) (fun i x H hx _ e => ?_)).mono fun u H ⟨hu, hH⟩ => ?_
  · subst e
    exact CallsH.pure _ rfl (hc x (List.mem_of_getElem? hx)) ⟨rfl, rfl⟩
  · subst hu
    simp (config := { dsimp := false }) only [go_sem, reduceIte, Nat.reduceEqDiff, reduceCtorEq, Nat.reduceAdd, Nat.reduceMul, Int.reduceToNat, Int.reduceLE, Int.reduceLT, Int.reduceEq, Int.reduceNe, Nat.reduceLeDiff, Int.reducePow, Nat.reducePow, Nat.reduceLT, Nat.reduceSub, Nat.reduceMod, Nat.reduceDiv, T.gf_42, T.ib_3, T.ip_3]
    exact ⟨by rw [any_idx], hH⟩

theorem Grow_ph (h : Heap) (n : Nat) (hn : n ≤ 1099511627776) : @CallsH Tryd.prog 35 #[.slice none 0 0, .int .i64 n] h ⟨fun u H => ∃ D, OwnRow recE H u D [] ∧ (∀ d ∈ D, h.next ≤ d) ∧ Upd h H []⟩ := by
  have c0 : ((n : Int) < 0) = False := eq_false (by omega)
  have w0 : IntKind.i64.wrap (0 : Int) = 0 := by decide
  have w1 : IntKind.i64.wrap (n : Int) = n := by rw [i64wrap] <;> omega
  by_cases h0 : n = 0
  · subst h0
    (refine calls_of_vc [] hm Tryd.func35 rfl (ts := [4]) rfl (by kernel_rfl) (by simp) ?_; simp (config := { dsimp := false, maxSteps := 10000000 }) (disch := omega) only [go_sem, reduceIte, Nat.reduceEqDiff, reduceCtorEq, Nat.reduceAdd, Nat.reduceMul, Int.reduceToNat, Int.reduceLE, Int.reduceLT, Int.reduceEq, Int.reduceNe, Nat.reduceLeDiff, Int.reducePow, Nat.reducePow, Nat.reduceLT, Nat.reduceSub, Nat.reduceMod, Nat.reduceDiv, slot_neg, slot_pos, T.eb_38, T.es_38, T.ez_38, T.ib_3, T.ii_3, T.ii_38, T.ip_3, T.s8_3, T.s8_38, T.sl_3, T.sl_38, T.st_3, T.st_38, T.un_3, T.un_38, init_a, w0])
    exact ⟨[], OwnRow.nil _, by simp, Upd.refl _ _⟩
  · have c1 : ((0 : Int) < (n : Int)) = True := eq_true (by omega)
    have c2 : ((n : Int) = 0) = False := eq_false (by omega)
    (refine calls_of_vc [] hm Tryd.func35 rfl (ts := [4]) rfl (by kernel_rfl) (by simp) ?_; simp (config := { dsimp := false, maxSteps := 10000000 }) (disch := omega) only [go_sem, reduceIte, Nat.reduceEqDiff, reduceCtorEq, Nat.reduceAdd, Nat.reduceMul, Int.reduceToNat, Int.reduceLE, Int.reduceLT, Int.reduceEq, Int.reduceNe, Nat.reduceLeDiff, Int.reducePow, Nat.reducePow, Nat.reduceLT, Nat.reduceSub, Nat.reduceMod, Nat.reduceDiv, slot_neg, slot_pos, T.eb_38, T.es_38, T.ez_38, T.ib_3, T.ii_3, T.ii_38, T.ip_3, T.s8_3, T.s8_38, T.sl_3, T.sl_38, T.st_3, T.st_38, T.un_3, T.un_38, init_a, c0, w0, w1, c1, c2])
    exact ⟨⟨by omega, by omega⟩, [h.next], .inr ⟨h.next, 0, _, rfl, Nat.lt_succ_self _, rfl, by rw [get_alloc, if_pos rfl], by simp, by simp [Enc.flat]⟩, by simp, Upd.alloc _ _ _⟩
theorem check1_ph (h : Heap) (q : Qst) (hl : q.1.length ≤ 1099511627776) : @CallsH Tryd.prog 31 #[.agg (qE.enc q).toArray] h ⟨fun u H => u = .bool (!qOk q) ∧ Upd h H []⟩ := by
  obtain ⟨nm, ty⟩ := q
  show @CallsH _ _ #[.agg #[.string (str nm), .int .i64 ty]] h ⟨_⟩
  unfold qOk
  dsimp only at hl ⊢
  have hU0 : Upd h (h.alloc (.cells [.string (str nm), .int .i64 ty] .own)) [] := Upd.alloc _ _ _
  (refine calls_of_vc [] hm Tryd.func31 rfl (ts := [2]) rfl (by kernel_rfl) (by simp) ?_; simp (config := { dsimp := false, maxSteps := 10000000 }) (disch := omega) only [go_sem, reduceIte, Nat.reduceEqDiff, reduceCtorEq, Nat.reduceAdd, Nat.reduceMul, Int.reduceToNat, Int.reduceLE, Int.reduceLT, Int.reduceEq, Int.reduceNe, Nat.reduceLeDiff, Int.reducePow, Nat.reducePow, Nat.reduceLT, Nat.reduceSub, Nat.reduceMod, Nat.reduceDiv, slot_neg, slot_pos, T.ag_3, T.ag_9, T.fo_36_0, T.fo_36_1, T.gf_12, T.gf_13, init_a])
  refine (isName_ph _ nm (by omega)).mono fun u H ⟨hu, hU1⟩ => ?_
  subst hu
  have hU := hU0.trans hU1 (by simp)
  have hg : H.get h.next = .live (.cells [.string (str nm), .int .i64 ty] .own) := (hU1.2 h.next (Nat.lt_succ_self _) (by simp)).trans (by rw [get_alloc, if_pos rfl])
  cases hn : (nameOf nm).isSome with
  | false =>
    simp (config := { dsimp := false, maxSteps := 10000000 }) (disch := omega) only [go_sem, reduceIte, Nat.reduceEqDiff, reduceCtorEq, Nat.reduceAdd, Nat.reduceMul, Int.reduceToNat, Int.reduceLE, Int.reduceLT, Int.reduceEq, Int.reduceNe, Nat.reduceLeDiff, Int.reducePow, Nat.reducePow, Nat.reduceLT, Nat.reduceSub, Nat.reduceMod, Nat.reduceDiv, slot_neg, slot_pos, T.ag_3, T.ag_9, T.fo_36_0, T.fo_36_1, T.gf_12, T.gf_13, hg]
    exact hU
  | true =>
  simp (config := { dsimp := false, maxSteps := 10000000 }) (disch := omega) only [go_sem, reduceIte, Nat.reduceEqDiff, reduceCtorEq, Nat.reduceAdd, Nat.reduceMul, Int.reduceToNat, Int.reduceLE, Int.reduceLT, Int.reduceEq, Int.reduceNe, Nat.reduceLeDiff, Int.reducePow, Nat.reducePow, Nat.reduceLT, Nat.reduceSub, Nat.reduceMod, Nat.reduceDiv, slot_neg, slot_pos, T.ag_3, T.ag_9, T.fo_36_0, T.fo_36_1, T.gf_12, T.gf_13, hg]
  refine CallsH.pure _ rfl (within_ph _ ty 1 65535) ?_
  simp (config := { dsimp := false, maxSteps := 10000000 }) (disch := omega) only [go_sem, reduceIte, Nat.reduceEqDiff, reduceCtorEq, Nat.reduceAdd, Nat.reduceMul, Int.reduceToNat, Int.reduceLE, Int.reduceLT, Int.reduceEq, Int.reduceNe, Nat.reduceLeDiff, Int.reducePow, Nat.reducePow, Nat.reduceLT, Nat.reduceSub, Nat.reduceMod, Nat.reduceDiv, slot_neg, slot_pos, T.ag_3, T.ag_9, T.fo_36_0, T.fo_36_1, T.gf_12, T.gf_13]
  exact hU
theorem check2_ph (h : Heap) (r : Rec) (h1 : r.1.length ≤ 1099511627776) (h2 : r.2.2.2.length ≤ 1099511627776) : @CallsH Tryd.prog 33 #[.agg (recE.enc r).toArray] h ⟨fun u H => u = .bool (!recOk r) ∧ Upd h H []⟩ := by
  obtain ⟨nm, ty, tl, da⟩ := r
  show @CallsH _ _ #[.agg #[.string (str nm), .int .i64 ty, .int .i64 tl, .string (str da)]] h ⟨_⟩
  have hU0 : Upd h (h.alloc (.cells [.string (str nm), .int .i64 ty, .int .i64 tl, .string (str da)] .own)) [] := Upd.alloc _ _ _
  (refine calls_of_vc [] hm Tryd.func33 rfl (ts := [2]) rfl (by kernel_rfl) (by simp) ?_; simp (config := { dsimp := false, maxSteps := 10000000 }) (disch := omega) only [go_sem, reduceIte, Nat.reduceEqDiff, reduceCtorEq, Nat.reduceAdd, Nat.reduceMul, Int.reduceToNat, Int.reduceLE, Int.reduceLT, Int.reduceEq, Int.reduceNe, Nat.reduceLeDiff, Int.reducePow, Nat.reducePow, Nat.reduceLT, Nat.reduceSub, Nat.reduceMod, Nat.reduceDiv, slot_neg, slot_pos, T.ag_23, T.gf_5, T.ib_25, T.ip_25, init_a])
  refine (Check_ph _ (nm, ty, tl, da) h1 h2).mono fun u H ⟨hu, hU1⟩ => ?_
  subst hu
  have hU := hU0.trans hU1 (by simp)
  cases hk : recOk (nm, ty, tl, da) with
  | true => simp (config := { dsimp := false, maxSteps := 10000000 }) (disch := omega) only [go_sem, reduceIte, Nat.reduceEqDiff, reduceCtorEq, Nat.reduceAdd, Nat.reduceMul, Int.reduceToNat, Int.reduceLE, Int.reduceLT, Int.reduceEq, Int.reduceNe, Nat.reduceLeDiff, Int.reducePow, Nat.reducePow, Nat.reduceLT, Nat.reduceSub, Nat.reduceMod, Nat.reduceDiv, slot_neg, slot_pos, T.ag_23, T.gf_5, T.ib_25, T.ip_25]; exact hU
  | false => simp (config := { dsimp := false, maxSteps := 10000000 }) (disch := omega) only [go_sem, reduceIte, Nat.reduceEqDiff, reduceCtorEq, Nat.reduceAdd, Nat.reduceMul, Int.reduceToNat, Int.reduceLE, Int.reduceLT, Int.reduceEq, Int.reduceNe, Nat.reduceLeDiff, Int.reducePow, Nat.reducePow, Nat.reduceLT, Nat.reduceSub, Nat.reduceMod, Nat.reduceDiv, slot_neg, slot_pos, T.ag_23, T.gf_5, T.ib_25, T.ip_25]; exact hU
theorem sum_take1 (ls : List (List Rec)) (k : Nat) (l : List Rec) (h : ls[k]? = some l) : ((ls.take (k + 1)).map List.length).sum = ((ls.take k).map List.length).sum + l.length := by
  obtain ⟨hk, rfl⟩ := List.getElem?_eq_some_iff.1 h
  rw [List.take_succ_eq_append_getElem hk]
  simp only [List.map_append, List.sum_append, List.map_cons, List.map_nil, List.sum_cons, List.sum_nil, Nat.add_zero]
theorem sum_le1 (ls : List (List Rec)) (k : Nat) : ((ls.take k).map List.length).sum ≤ (ls.map List.length).sum := by
  induction ls generalizing k with
  | nil => simp
  | cons l ls ih =>
    cases k with
    | zero => simp
    | succ k => have := ih k; simp at this ⊢; omega
theorem flat_len1 (ls : List (List Rec)) : ls.flatten.length = (ls.map List.length).sum := List.length_flatten
theorem flat_take1 (ls : List (List Rec)) (k : Nat) (l : List Rec) (h : ls[k]? = some l) : (ls.take (k + 1)).flatten = (ls.take k).flatten ++ l := by
  obtain ⟨hk, rfl⟩ := List.getElem?_eq_some_iff.1 h
  rw [List.take_succ_eq_append_getElem hk]
  simp only [List.flatten_append, List.flatten_cons, List.flatten_nil, List.append_nil]
theorem Concat_ph (h : Heap) (q : Nat) (o : Own) (ss : List Value) (ls : List (List Rec)) (hq : h.get q = .live (.cells ss o)) (hqn : q < h.next) (hlen : ss.length = ls.length)
    (hrow : ∀ (k : Nat) s l, ss[k]? = some s → ls[k]? = some l → RowIn recE h s l ∧ ∀ A n st, s = .slice (some A) n st → A.block < h.next) (hsz : (ls.map List.length).sum ≤ 1099511627776) (hln : ls.length ≤ 1000) :
    @CallsH Tryd.prog 23 #[.slice (some ⟨q, 0, none⟩) ss.length 1] h ⟨fun u H => ∃ D, OwnRow recE H u D ls.flatten ∧ (∀ d ∈ D, h.next ≤ d) ∧ Upd h H []⟩ := by
  (refine calls_of_vc [] hm Tryd.func23 rfl (ts := [2]) rfl (by kernel_rfl) (by simp) ?_; simp (config := { dsimp := false, maxSteps := 10000000 }) (disch := omega) only [go_sem, reduceIte, Nat.reduceEqDiff, reduceCtorEq, Nat.reduceAdd, Nat.reduceMul, Int.reduceToNat, Int.reduceLE, Int.reduceLT, Int.reduceEq, Int.reduceNe, Nat.reduceLeDiff, Int.reducePow, Nat.reducePow, Nat.reduceLT, Nat.reduceSub, Nat.reduceMod, Nat.reduceDiv, slot_neg, slot_pos, T.ag_38, T.eb_38, T.es_71, T.ez_38, T.gf_35, T.ib_3, T.ii_38, T.ii_71, T.ip_3, T.s8_38, T.s8_71, T.sl_38, T.sl_71, T.st_38, T.st_71, T.un_38, T.un_71, init_a])
  refine loop_intro [] hm (fun r H => ∃ k : Nat, k ≤ ls.length ∧ r 0 = .slice (some ⟨q, 0, none⟩) ss.length 1 ∧ r 3 = .int .i64 (((ls.take k).map List.length).sum : Nat) ∧ r 9 = .slice (some ⟨q, 0, none⟩) ss.length 1 ∧ r 10 = .int .i64 ls.length ∧ r 11 = .int .i64 k ∧ H = h) (fun r _ => match r 11 with | .int _ i => ls.length - i.toNat | _ => 0) ?_ ?_
  · exact ⟨0, by omega, by simp [upd, initR], by simp [upd], by simp [upd], by simp [upd, hlen], by simp [upd], rfl⟩
  · rintro r H ⟨k, hk, q0, q3, q9, q10, q11, rfl⟩
    by_cases hkl : k < ls.length
    · have c1 : ((k : Int) < (ls.length : Int)) = True := eq_true (by omega)
      have c2 : ((k : Int) < (ss.length : Int)) = True := eq_true (by omega)
      have wk : IntKind.i64.wrap ((k : Int) + 1) = ((k + 1 : Nat) : Int) := by rw [i64wrap] <;> omega
      have hx : ls[k]? = some ls[k] := List.getElem?_eq_getElem hkl
      have hs : ss[k]? = some ss[k] := List.getElem?_eq_getElem (by omega)
      have hsum := sum_take1 ls k _ hx
      have hle := sum_le1 ls (k + 1)
      obtain ⟨hr, hlt⟩ := hrow k _ _ hs hx
      generalize ls[k] = l at *
      generalize ss[k] = s at *
      have ws : IntKind.i64.wrap ((((ls.take k).map List.length).sum : Nat) + (l.length : Int)) = (((ls.take (k + 1)).map List.length).sum : Nat) := by rw [i64wrap] <;> omega
      have c3 : (((((ls.take (k + 1)).map List.length).sum : Nat) : Int) < 0) = False := eq_false (by omega)
      have hor := hr.one
      simp (config := { dsimp := false, maxSteps := 10000000 }) (disch := omega) only [go_sem, reduceIte, Nat.reduceEqDiff, reduceCtorEq, Nat.reduceAdd, Nat.reduceMul, Int.reduceToNat, Int.reduceLE, Int.reduceLT, Int.reduceEq, Int.reduceNe, Nat.reduceLeDiff, Int.reducePow, Nat.reducePow, Nat.reduceLT, Nat.reduceSub, Nat.reduceMod, Nat.reduceDiv, slot_neg, slot_pos, T.ag_38, T.eb_38, T.es_71, T.ez_38, T.gf_35, T.ib_3, T.ii_38, T.ii_71, T.ip_3, T.s8_38, T.s8_71, T.sl_38, T.sl_71, T.st_38, T.st_71, T.un_38, T.un_71, q0, q3, q9, q10, q11, c1, c2, hq, hs, hor.1, hor.2, len_in hr, ws, c3, wk]
      exact ⟨⟨k + 1, hkl, rfl, rfl⟩, by omega⟩
    · obtain rfl : k = ls.length := by omega
      have c1 : ((ls.length : Int) < (ls.length : Int)) = False := eq_false (by omega)
      rw [List.take_length] at q3
      simp (config := { dsimp := false, maxSteps := 10000000 }) (disch := omega) only [go_sem, reduceIte, Nat.reduceEqDiff, reduceCtorEq, Nat.reduceAdd, Nat.reduceMul, Int.reduceToNat, Int.reduceLE, Int.reduceLT, Int.reduceEq, Int.reduceNe, Nat.reduceLeDiff, Int.reducePow, Nat.reducePow, Nat.reduceLT, Nat.reduceSub, Nat.reduceMod, Nat.reduceDiv, slot_neg, slot_pos, T.ag_38, T.eb_38, T.es_71, T.ez_38, T.gf_35, T.ib_3, T.ii_38, T.ii_71, T.ip_3, T.s8_38, T.s8_71, T.sl_38, T.sl_71, T.st_38, T.st_71, T.un_38, T.un_71, q0, q3, q9, q10, q11, c1]
      refine (Grow_ph H _ hsz).mono fun u H2 ⟨D, hO, hD, hU⟩ => ?_
      have hou := hO.row.one
      simp (config := { dsimp := false, maxSteps := 10000000 }) (disch := omega) only [go_sem, reduceIte, Nat.reduceEqDiff, reduceCtorEq, Nat.reduceAdd, Nat.reduceMul, Int.reduceToNat, Int.reduceLE, Int.reduceLT, Int.reduceEq, Int.reduceNe, Nat.reduceLeDiff, Int.reducePow, Nat.reducePow, Nat.reduceLT, Nat.reduceSub, Nat.reduceMod, Nat.reduceDiv, slot_neg, slot_pos, T.ag_38, T.eb_38, T.es_71, T.ez_38, T.gf_35, T.ib_3, T.ii_38, T.ii_71, T.ip_3, T.s8_38, T.s8_71, T.sl_38, T.sl_71, T.st_38, T.st_71, T.un_38, T.un_71, q0, q9, hou.1, hou.2]
      refine loop_intro [] hm (fun r H3 => ∃ (k : Nat) (w : Value) (D2 : List Nat), k ≤ ls.length ∧ r 6 = w ∧ r 25 = .slice (some ⟨q, 0, none⟩) ss.length 1 ∧ r 26 = .int .i64 ls.length ∧ r 27 = .int .i64 k ∧ OwnRow recE H3 w D2 (ls.take k).flatten ∧ (∀ d ∈ D2, H.next ≤ d) ∧ Upd H H3 []) (fun r _ => match r 27 with | .int _ i => ls.length - i.toNat | _ => 0) ?_ ?_
      · exact ⟨0, u, D, by omega, by simp [upd], by simp [upd], by simp [upd, hlen], by simp [upd], hO, hD, hU⟩
      · rintro r H3 ⟨k, w, D2, hk, q6, q25, q26, q27, hO3, hD3, hU3⟩
        have how := hO3.row.one
        by_cases hkl : k < ls.length
        · have c1 : ((k : Int) < (ls.length : Int)) = True := eq_true (by omega)
          have c2 : ((k : Int) < (ss.length : Int)) = True := eq_true (by omega)
          have wk : IntKind.i64.wrap ((k : Int) + 1) = ((k + 1 : Nat) : Int) := by rw [i64wrap] <;> omega
          have hx : ls[k]? = some ls[k] := List.getElem?_eq_getElem hkl
          have hs : ss[k]? = some ss[k] := List.getElem?_eq_getElem (by omega)
          have hsum := sum_take1 ls k _ hx
          have hfl := flat_take1 ls k _ hx
          have hfn := flat_len1 (ls.take k)
          have hle := sum_le1 ls (k + 1)
          obtain ⟨hr, hlt⟩ := hrow k _ _ hs hx
          generalize ls[k] = l at *
          generalize ss[k] = s at *
          have hq3 := (hU3.2 q hqn (by simp)).trans hq
          have hr3 := hr.upd (h' := H3) fun A n st e => hU3.2 _ (hlt A n st e) (by simp)
          have hor := hr.one
          simp (config := { dsimp := false, maxSteps := 10000000 }) (disch := omega) only [go_sem, reduceIte, Nat.reduceEqDiff, reduceCtorEq, Nat.reduceAdd, Nat.reduceMul, Int.reduceToNat, Int.reduceLE, Int.reduceLT, Int.reduceEq, Int.reduceNe, Nat.reduceLeDiff, Int.reducePow, Nat.reducePow, Nat.reduceLT, Nat.reduceSub, Nat.reduceMod, Nat.reduceDiv, slot_neg, slot_pos, T.ag_38, T.eb_38, T.es_71, T.ez_38, T.gf_35, T.ib_3, T.ii_38, T.ii_71, T.ip_3, T.s8_38, T.s8_71, T.sl_38, T.sl_71, T.st_38, T.st_71, T.un_38, T.un_71, q6, q25, q26, q27, c1, c2, hq3, hs, hor.1, hor.2, how.1, how.2]
          refine news_row (l := l) (by kernel_rfl) hr3 rfl ?_
          simp (config := { dsimp := false, maxSteps := 10000000 }) (disch := omega) only [go_sem, reduceIte, Nat.reduceEqDiff, reduceCtorEq, Nat.reduceAdd, Nat.reduceMul, Int.reduceToNat, Int.reduceLE, Int.reduceLT, Int.reduceEq, Int.reduceNe, Nat.reduceLeDiff, Int.reducePow, Nat.reducePow, Nat.reduceLT, Nat.reduceSub, Nat.reduceMod, Nat.reduceDiv, slot_neg, slot_pos, T.ag_38, T.eb_38, T.es_71, T.ez_38, T.gf_35, T.ib_3, T.ii_38, T.ii_71, T.ip_3, T.s8_38, T.s8_71, T.sl_38, T.sl_71, T.st_38, T.st_71, T.un_38, T.un_71]
          refine ⟨flat_one _, app_own (E := recE) (ns := l) hO3 rfl rfl rfl (by omega) fun u5 H5 D5 hO5 hU5 hD5 => ?_⟩
          have ho5 := hO5.row.one
          simp (config := { dsimp := false, maxSteps := 10000000 }) (disch := omega) only [go_sem, reduceIte, Nat.reduceEqDiff, reduceCtorEq, Nat.reduceAdd, Nat.reduceMul, Int.reduceToNat, Int.reduceLE, Int.reduceLT, Int.reduceEq, Int.reduceNe, Nat.reduceLeDiff, Int.reducePow, Nat.reducePow, Nat.reduceLT, Nat.reduceSub, Nat.reduceMod, Nat.reduceDiv, slot_neg, slot_pos, T.ag_38, T.eb_38, T.es_71, T.ez_38, T.gf_35, T.ib_3, T.ii_38, T.ii_71, T.ip_3, T.s8_38, T.s8_71, T.sl_38, T.sl_71, T.st_38, T.st_71, T.un_38, T.un_71, q6, q25, q26, q27, ho5.1, ho5.2, wk]
          have n3 := hU3.1
          refine ⟨⟨k + 1, u5, D5, hkl, rfl, rfl, by rw [hfl]; exact hO5, fun d hd => ?_, hU3.trans hU5 fun d hd => .inr (hD3 d hd)⟩, by omega⟩
          rcases hD5 d hd with h9 | h9
          · exact hD3 d h9
          · omega
        · obtain rfl : k = ls.length := by omega
          have c1 : ((ls.length : Int) < (ls.length : Int)) = False := eq_false (by omega)
          rw [List.take_length] at hO3
          simp (config := { dsimp := false, maxSteps := 10000000 }) (disch := omega) only [go_sem, reduceIte, Nat.reduceEqDiff, reduceCtorEq, Nat.reduceAdd, Nat.reduceMul, Int.reduceToNat, Int.reduceLE, Int.reduceLT, Int.reduceEq, Int.reduceNe, Nat.reduceLeDiff, Int.reducePow, Nat.reducePow, Nat.reduceLT, Nat.reduceSub, Nat.reduceMod, Nat.reduceDiv, slot_neg, slot_pos, T.ag_38, T.eb_38, T.es_71, T.ez_38, T.gf_35, T.ib_3, T.ii_38, T.ii_71, T.ip_3, T.s8_38, T.s8_71, T.sl_38, T.sl_71, T.st_38, T.st_71, T.un_38, T.un_71, q6, q25, q26, q27, c1, how.1, how.2]
          exact ⟨D2, hO3, hD3, hU3⟩
/-- a message in a heap: its cells -/
def MsgV.cells (m : MsgV) (sa s1 s2 s3 : Value) : List Value := [.int .i64 m.id, .bool m.ans, .int .i64 m.kind, .bool m.own, .bool m.cut, .bool m.wanted, .bool m.able, .int .i64 m.code, sa, s1, s2, s3]
def inH (h : Heap) (v : Value) : Prop := ∀ A n st, v = .slice (some A) n st → A.block < h.next
structure MsgR (h : Heap) (m : MsgV) (sa s1 s2 s3 : Value) : Prop where
  ra : RowIn qE h sa m.ask
  r1 : RowIn recE h s1 m.a1
  r2 : RowIn recE h s2 m.a2
  r3 : RowIn recE h s3 m.a3
  la : inH h sa
  l1 : inH h s1
  l2 : inH h s2
  l3 : inH h s3
theorem inH.upd {h H : Heap} {v : Value} {F : List Nat} (hi : inH h v) (hU : Upd h H F) : inH H v := fun A n st e => Nat.lt_of_lt_of_le (hi A n st e) hU.1
theorem row_keep {α : Type} {E : Enc α} {h H : Heap} {v : Value} {l : List α} (hr : RowIn E h v l) (hi : inH h v) (hU : Upd h H []) : RowIn E H v l := hr.upd fun A n st e => hU.2 _ (hi A n st e) (by simp)
theorem MsgR.upd {h H : Heap} {m : MsgV} {sa s1 s2 s3 : Value} (hM : MsgR h m sa s1 s2 s3) (hU : Upd h H []) : MsgR H m sa s1 s2 s3 :=
  ⟨row_keep hM.ra hM.la hU, row_keep hM.r1 hM.l1 hU, row_keep hM.r2 hM.l2 hU, row_keep hM.r3 hM.l3 hU, hM.la.upd hU, hM.l1.upd hU, hM.l2.upd hU, hM.l3.upd hU⟩
/-- sizes that hold everywhere below -/
structure MsgV.Sz (m : MsgV) : Prop where
  q : ∀ q ∈ m.ask, q.1.length ≤ 1048576
  r : ∀ r ∈ m.all, r.1.length ≤ 1048576 ∧ r.2.2.2.length ≤ 1048576
  n : m.ask.length + m.all.length ≤ 4194304
theorem CallsH.ro_pure {P : Program} {f : FuncId} {args : Array Value} {h : Heap} {u0 : Value} (hc : ∀ h, @CallsH P f args h ⟨fun u H => u = u0 ∧ Upd h H []⟩) : @CallsH P f args h.ro ⟨fun u _ => u = u0⟩ := (hc h.ro).mono fun _ _ h => h.1
theorem all_three (m : MsgV) : [m.a1, m.a2, m.a3].flatten = m.all := by simp [MsgV.all]
theorem any_not {α : Type} (p : α → Bool) (l : List α) : l.any (fun x => !p x) = !(l.all p) := by rw [List.all_eq_not_any_not, Bool.not_not]
theorem msgCheck_ph (h : Heap) (m : MsgV) (sa s1 s2 s3 : Value) (hM : MsgR h m sa s1 s2 s3) (hS : m.Sz) : @CallsH Tryd.prog 19 #[.agg (m.cells sa s1 s2 s3).toArray] h ⟨fun u H => u = .int .i64 m.err ∧ Upd h H []⟩ := by
  have oa := hM.ra.one
  have o1 := hM.r1.one
  have o2 := hM.r2.one
  have o3 := hM.r3.one
  show @CallsH _ _ #[.agg #[.int .i64 m.id, .bool m.ans, .int .i64 m.kind, .bool m.own, .bool m.cut, .bool m.wanted, .bool m.able, .int .i64 m.code, sa, s1, s2, s3]] h ⟨_⟩
  have e3 : repl 3 [Value.slice none 0 0] = [.slice none 0 0, .slice none 0 0, .slice none 0 0] := rfl
  (refine calls_of_vc [] hm Tryd.func19 rfl (ts := [2]) rfl (by kernel_rfl) (by simp) ?_; simp (config := { dsimp := false, maxSteps := 10000000 }) (disch := omega) only [go_sem, reduceIte, Nat.reduceEqDiff, reduceCtorEq, Nat.reduceAdd, Nat.reduceMul, Int.reduceToNat, Int.reduceLE, Int.reduceLT, Int.reduceEq, Int.reduceNe, Nat.reduceLeDiff, Int.reducePow, Nat.reducePow, Nat.reduceLT, Nat.reduceSub, Nat.reduceMod, Nat.reduceDiv, slot_neg, slot_pos, T.ag_3, T.ag_37, T.ag_38, T.eb_71, T.ez_71, T.fo_40_0, T.fo_40_10, T.fo_40_11, T.fo_40_2, T.fo_40_7, T.fo_40_8, T.fo_40_9, T.gf_13, T.gf_23, T.gf_30, T.gf_31, T.gf_32, T.gf_33, T.ib_3, T.ii_37, T.ii_38, T.ip_3, T.s8_37, T.s8_38, T.sl_37, T.sl_38, T.st_37, T.st_38, T.un_37, T.un_38, init_a, oa.1, oa.2, o1.1, o1.2, o2.1, o2.2, o3.1, o3.2, e3])
  have hUa : Upd h ((h.alloc (.cells [.int .i64 m.id, .bool m.ans, .int .i64 m.kind, .bool m.own, .bool m.cut, .bool m.wanted, .bool m.able, .int .i64 m.code, sa, s1, s2, s3] .own)).alloc (.cells [s1, s2, s3] .own)) [] := (Upd.alloc _ _ _).allocs
  have hMa := hM.upd hUa
  have hn := hS.n
  have hal : m.all.length = m.a1.length + m.a2.length + m.a3.length := by simp [MsgV.all]; omega
  refine (Concat_ph _ (h.next + 1) .own [s1, s2, s3] [m.a1, m.a2, m.a3] (by rw [get_alloc]; exact if_pos rfl) (Nat.lt_succ_self _) rfl (fun k s l hs hl => ?_) (by simp; omega) (by simp)).mono fun u H ⟨D, hO, hD, hU⟩ => ?_
  · match k, hs, hl with
    | 0, hs, hl => cases hs; cases hl; exact ⟨hMa.r1, hMa.l1⟩
    | 1, hs, hl => cases hs; cases hl; exact ⟨hMa.r2, hMa.l2⟩
    | 2, hs, hl => cases hs; cases hl; exact ⟨hMa.r3, hMa.l3⟩
    | k + 3, hs, hl => simp at hs
  rw [all_three] at hO
  have hUU := hUa.trans hU (by simp)
  have hMH := hM.upd hUU
  have hg : H.get h.next = .live (.cells [.int .i64 m.id, .bool m.ans, .int .i64 m.kind, .bool m.own, .bool m.cut, .bool m.wanted, .bool m.able, .int .i64 m.code, sa, s1, s2, s3] .own) := (hU.2 h.next (by show h.next < h.next + 2; omega) (by simp)).trans (by rw [get_alloc, if_neg (by show h.next ≠ h.next + 1; omega), get_alloc, if_pos rfl])
  have ws : IntKind.i64.wrap ((m.ask.length : Int) + (m.all.length : Int)) = ((m.ask.length + m.all.length : Nat) : Int) := by rw [i64wrap] <;> omega
  have hou := hO.row.one
  unfold MsgV.err MsgV.numsOk
  by_cases hbig : 300 < m.ask.length + m.all.length
  · have c1 : ((300 : Int) < ((m.ask.length + m.all.length : Nat) : Int)) = True := eq_true (by omega)
    rw [if_pos hbig]
    simp (config := { dsimp := false, maxSteps := 10000000 }) (disch := omega) only [go_sem, reduceIte, Nat.reduceEqDiff, reduceCtorEq, Nat.reduceAdd, Nat.reduceMul, Int.reduceToNat, Int.reduceLE, Int.reduceLT, Int.reduceEq, Int.reduceNe, Nat.reduceLeDiff, Int.reducePow, Nat.reducePow, Nat.reduceLT, Nat.reduceSub, Nat.reduceMod, Nat.reduceDiv, slot_neg, slot_pos, T.ag_3, T.ag_37, T.ag_38, T.eb_71, T.ez_71, T.fo_40_0, T.fo_40_10, T.fo_40_11, T.fo_40_2, T.fo_40_7, T.fo_40_8, T.fo_40_9, T.gf_13, T.gf_23, T.gf_30, T.gf_31, T.gf_32, T.gf_33, T.ib_3, T.ii_37, T.ii_38, T.ip_3, T.s8_37, T.s8_38, T.sl_37, T.sl_38, T.st_37, T.st_38, T.un_37, T.un_38, hg, hou.1, hou.2, oa.1, oa.2, len_in hMH.ra, len_own hO, ws, c1]
    exact hUU
  have c1 : ((300 : Int) < ((m.ask.length + m.all.length : Nat) : Int)) = False := eq_false (by omega)
  rw [if_neg hbig]
  simp (config := { dsimp := false, maxSteps := 10000000 }) (disch := omega) only [go_sem, reduceIte, Nat.reduceEqDiff, reduceCtorEq, Nat.reduceAdd, Nat.reduceMul, Int.reduceToNat, Int.reduceLE, Int.reduceLT, Int.reduceEq, Int.reduceNe, Nat.reduceLeDiff, Int.reducePow, Nat.reducePow, Nat.reduceLT, Nat.reduceSub, Nat.reduceMod, Nat.reduceDiv, slot_neg, slot_pos, T.ag_3, T.ag_37, T.ag_38, T.eb_71, T.ez_71, T.fo_40_0, T.fo_40_10, T.fo_40_11, T.fo_40_2, T.fo_40_7, T.fo_40_8, T.fo_40_9, T.gf_13, T.gf_23, T.gf_30, T.gf_31, T.gf_32, T.gf_33, T.ib_3, T.ii_37, T.ii_38, T.ip_3, T.s8_37, T.s8_38, T.sl_37, T.sl_38, T.st_37, T.st_38, T.un_37, T.un_38, hg, hou.1, hou.2, oa.1, oa.2, len_in hMH.ra, len_own hO, ws, c1]
  refine CallsH.pure _ rfl (within_ph _ m.id 0 65535) ?_
  by_cases h1 : 0 ≤ m.id ∧ m.id ≤ 65535
  · have d1 : decide (0 ≤ m.id ∧ m.id ≤ 65535) = true := decide_eq_true h1
    simp (config := { dsimp := false, maxSteps := 10000000 }) (disch := omega) only [go_sem, reduceIte, Nat.reduceEqDiff, reduceCtorEq, Nat.reduceAdd, Nat.reduceMul, Int.reduceToNat, Int.reduceLE, Int.reduceLT, Int.reduceEq, Int.reduceNe, Nat.reduceLeDiff, Int.reducePow, Nat.reducePow, Nat.reduceLT, Nat.reduceSub, Nat.reduceMod, Nat.reduceDiv, slot_neg, slot_pos, T.ag_3, T.ag_37, T.ag_38, T.eb_71, T.ez_71, T.fo_40_0, T.fo_40_10, T.fo_40_11, T.fo_40_2, T.fo_40_7, T.fo_40_8, T.fo_40_9, T.gf_13, T.gf_23, T.gf_30, T.gf_31, T.gf_32, T.gf_33, T.ib_3, T.ii_37, T.ii_38, T.ip_3, T.s8_37, T.s8_38, T.sl_37, T.sl_38, T.st_37, T.st_38, T.un_37, T.un_38, hg, d1]
    refine CallsH.pure _ rfl (within_ph _ m.kind 0 15) ?_
    by_cases h2 : 0 ≤ m.kind ∧ m.kind ≤ 15
    · have d2 : decide (0 ≤ m.kind ∧ m.kind ≤ 15) = true := decide_eq_true h2
      simp (config := { dsimp := false, maxSteps := 10000000 }) (disch := omega) only [go_sem, reduceIte, Nat.reduceEqDiff, reduceCtorEq, Nat.reduceAdd, Nat.reduceMul, Int.reduceToNat, Int.reduceLE, Int.reduceLT, Int.reduceEq, Int.reduceNe, Nat.reduceLeDiff, Int.reducePow, Nat.reducePow, Nat.reduceLT, Nat.reduceSub, Nat.reduceMod, Nat.reduceDiv, slot_neg, slot_pos, T.ag_3, T.ag_37, T.ag_38, T.eb_71, T.ez_71, T.fo_40_0, T.fo_40_10, T.fo_40_11, T.fo_40_2, T.fo_40_7, T.fo_40_8, T.fo_40_9, T.gf_13, T.gf_23, T.gf_30, T.gf_31, T.gf_32, T.gf_33, T.ib_3, T.ii_37, T.ii_38, T.ip_3, T.s8_37, T.s8_38, T.sl_37, T.sl_38, T.st_37, T.st_38, T.un_37, T.un_38, hg, d2]
      refine CallsH.pure _ rfl (within_ph _ m.code 0 15) ?_
      by_cases h3 : 0 ≤ m.code ∧ m.code ≤ 15
      · have d3 : decide (0 ≤ m.code ∧ m.code ≤ 15) = true := decide_eq_true h3
        simp (config := { dsimp := false, maxSteps := 10000000 }) (disch := omega) only [go_sem, reduceIte, Nat.reduceEqDiff, reduceCtorEq, Nat.reduceAdd, Nat.reduceMul, Int.reduceToNat, Int.reduceLE, Int.reduceLT, Int.reduceEq, Int.reduceNe, Nat.reduceLeDiff, Int.reducePow, Nat.reducePow, Nat.reduceLT, Nat.reduceSub, Nat.reduceMod, Nat.reduceDiv, slot_neg, slot_pos, T.ag_3, T.ag_37, T.ag_38, T.eb_71, T.ez_71, T.fo_40_0, T.fo_40_10, T.fo_40_11, T.fo_40_2, T.fo_40_7, T.fo_40_8, T.fo_40_9, T.gf_13, T.gf_23, T.gf_30, T.gf_31, T.gf_32, T.gf_33, T.ib_3, T.ii_37, T.ii_38, T.ip_3, T.s8_37, T.s8_38, T.sl_37, T.sl_38, T.st_37, T.st_38, T.un_37, T.un_38, hg, d3, oa.1, oa.2]
        refine (ContainsQ_ph H sa m.ask 31 #[] (fun q => !qOk q) (by omega) (by kernel_rfl) hMH.ra fun q hq => ?_).mono fun u2 H2 ⟨hu2, hH2⟩ => ?_
        · exact CallsH.ro_pure fun h9 => check1_ph h9 q (by have := hS.q q hq; omega)
        subst hu2 hH2
        rw [any_not]
        cases hq : m.ask.all qOk with
        | false =>
          simp (config := { dsimp := false, maxSteps := 10000000 }) (disch := omega) only [go_sem, reduceIte, Nat.reduceEqDiff, reduceCtorEq, Nat.reduceAdd, Nat.reduceMul, Int.reduceToNat, Int.reduceLE, Int.reduceLT, Int.reduceEq, Int.reduceNe, Nat.reduceLeDiff, Int.reducePow, Nat.reducePow, Nat.reduceLT, Nat.reduceSub, Nat.reduceMod, Nat.reduceDiv, slot_neg, slot_pos, T.ag_3, T.ag_37, T.ag_38, T.eb_71, T.ez_71, T.fo_40_0, T.fo_40_10, T.fo_40_11, T.fo_40_2, T.fo_40_7, T.fo_40_8, T.fo_40_9, T.gf_13, T.gf_23, T.gf_30, T.gf_31, T.gf_32, T.gf_33, T.ib_3, T.ii_37, T.ii_38, T.ip_3, T.s8_37, T.s8_38, T.sl_37, T.sl_38, T.st_37, T.st_38, T.un_37, T.un_38]
          exact hUU
        | true =>
          simp (config := { dsimp := false, maxSteps := 10000000 }) (disch := omega) only [go_sem, reduceIte, Nat.reduceEqDiff, reduceCtorEq, Nat.reduceAdd, Nat.reduceMul, Int.reduceToNat, Int.reduceLE, Int.reduceLT, Int.reduceEq, Int.reduceNe, Nat.reduceLeDiff, Int.reducePow, Nat.reducePow, Nat.reduceLT, Nat.reduceSub, Nat.reduceMod, Nat.reduceDiv, slot_neg, slot_pos, T.ag_3, T.ag_37, T.ag_38, T.eb_71, T.ez_71, T.fo_40_0, T.fo_40_10, T.fo_40_11, T.fo_40_2, T.fo_40_7, T.fo_40_8, T.fo_40_9, T.gf_13, T.gf_23, T.gf_30, T.gf_31, T.gf_32, T.gf_33, T.ib_3, T.ii_37, T.ii_38, T.ip_3, T.s8_37, T.s8_38, T.sl_37, T.sl_38, T.st_37, T.st_38, T.un_37, T.un_38, hou.1, hou.2]
          refine (ContainsR_ph H2 u m.all 33 #[] (fun r => !recOk r) (by omega) (by kernel_rfl) hO.row fun r hr => ?_).mono fun u3 H3 ⟨hu3, hH3⟩ => ?_
          · exact CallsH.ro_pure fun h9 => check2_ph h9 r (by have := hS.r r hr; omega) (by have := hS.r r hr; omega)
          subst hu3 hH3
          rw [any_not]
          cases hrr : m.all.all recOk with
          | false =>
            simp (config := { dsimp := false, maxSteps := 10000000 }) (disch := omega) only [go_sem, reduceIte, Nat.reduceEqDiff, reduceCtorEq, Nat.reduceAdd, Nat.reduceMul, Int.reduceToNat, Int.reduceLE, Int.reduceLT, Int.reduceEq, Int.reduceNe, Nat.reduceLeDiff, Int.reducePow, Nat.reducePow, Nat.reduceLT, Nat.reduceSub, Nat.reduceMod, Nat.reduceDiv, slot_neg, slot_pos, T.ag_3, T.ag_37, T.ag_38, T.eb_71, T.ez_71, T.fo_40_0, T.fo_40_10, T.fo_40_11, T.fo_40_2, T.fo_40_7, T.fo_40_8, T.fo_40_9, T.gf_13, T.gf_23, T.gf_30, T.gf_31, T.gf_32, T.gf_33, T.ib_3, T.ii_37, T.ii_38, T.ip_3, T.s8_37, T.s8_38, T.sl_37, T.sl_38, T.st_37, T.st_38, T.un_37, T.un_38]
            exact hUU
          | true =>
            simp (config := { dsimp := false, maxSteps := 10000000 }) (disch := omega) only [go_sem, reduceIte, Nat.reduceEqDiff, reduceCtorEq, Nat.reduceAdd, Nat.reduceMul, Int.reduceToNat, Int.reduceLE, Int.reduceLT, Int.reduceEq, Int.reduceNe, Nat.reduceLeDiff, Int.reducePow, Nat.reducePow, Nat.reduceLT, Nat.reduceSub, Nat.reduceMod, Nat.reduceDiv, slot_neg, slot_pos, T.ag_3, T.ag_37, T.ag_38, T.eb_71, T.ez_71, T.fo_40_0, T.fo_40_10, T.fo_40_11, T.fo_40_2, T.fo_40_7, T.fo_40_8, T.fo_40_9, T.gf_13, T.gf_23, T.gf_30, T.gf_31, T.gf_32, T.gf_33, T.ib_3, T.ii_37, T.ii_38, T.ip_3, T.s8_37, T.s8_38, T.sl_37, T.sl_38, T.st_37, T.st_38, T.un_37, T.un_38]
            exact ⟨by simp [h1.1, h1.2, h2.1, h2.2, h3.1, h3.2], hUU⟩
      · have d3 : decide (0 ≤ m.code ∧ m.code ≤ 15) = false := decide_eq_false h3
        simp (config := { dsimp := false, maxSteps := 10000000 }) (disch := omega) only [go_sem, reduceIte, Nat.reduceEqDiff, reduceCtorEq, Nat.reduceAdd, Nat.reduceMul, Int.reduceToNat, Int.reduceLE, Int.reduceLT, Int.reduceEq, Int.reduceNe, Nat.reduceLeDiff, Int.reducePow, Nat.reducePow, Nat.reduceLT, Nat.reduceSub, Nat.reduceMod, Nat.reduceDiv, slot_neg, slot_pos, T.ag_3, T.ag_37, T.ag_38, T.eb_71, T.ez_71, T.fo_40_0, T.fo_40_10, T.fo_40_11, T.fo_40_2, T.fo_40_7, T.fo_40_8, T.fo_40_9, T.gf_13, T.gf_23, T.gf_30, T.gf_31, T.gf_32, T.gf_33, T.ib_3, T.ii_37, T.ii_38, T.ip_3, T.s8_37, T.s8_38, T.sl_37, T.sl_38, T.st_37, T.st_38, T.un_37, T.un_38, hg, d3]
        exact hUU
    · have d2 : decide (0 ≤ m.kind ∧ m.kind ≤ 15) = false := decide_eq_false h2
      simp (config := { dsimp := false, maxSteps := 10000000 }) (disch := omega) only [go_sem, reduceIte, Nat.reduceEqDiff, reduceCtorEq, Nat.reduceAdd, Nat.reduceMul, Int.reduceToNat, Int.reduceLE, Int.reduceLT, Int.reduceEq, Int.reduceNe, Nat.reduceLeDiff, Int.reducePow, Nat.reducePow, Nat.reduceLT, Nat.reduceSub, Nat.reduceMod, Nat.reduceDiv, slot_neg, slot_pos, T.ag_3, T.ag_37, T.ag_38, T.eb_71, T.ez_71, T.fo_40_0, T.fo_40_10, T.fo_40_11, T.fo_40_2, T.fo_40_7, T.fo_40_8, T.fo_40_9, T.gf_13, T.gf_23, T.gf_30, T.gf_31, T.gf_32, T.gf_33, T.ib_3, T.ii_37, T.ii_38, T.ip_3, T.s8_37, T.s8_38, T.sl_37, T.sl_38, T.st_37, T.st_38, T.un_37, T.un_38, hg, d2]
      exact hUU
  · have d1 : decide (0 ≤ m.id ∧ m.id ≤ 65535) = false := decide_eq_false h1
    simp (config := { dsimp := false, maxSteps := 10000000 }) (disch := omega) only [go_sem, reduceIte, Nat.reduceEqDiff, reduceCtorEq, Nat.reduceAdd, Nat.reduceMul, Int.reduceToNat, Int.reduceLE, Int.reduceLT, Int.reduceEq, Int.reduceNe, Nat.reduceLeDiff, Int.reducePow, Nat.reducePow, Nat.reduceLT, Nat.reduceSub, Nat.reduceMod, Nat.reduceDiv, slot_neg, slot_pos, T.ag_3, T.ag_37, T.ag_38, T.eb_71, T.ez_71, T.fo_40_0, T.fo_40_10, T.fo_40_11, T.fo_40_2, T.fo_40_7, T.fo_40_8, T.fo_40_9, T.gf_13, T.gf_23, T.gf_30, T.gf_31, T.gf_32, T.gf_33, T.ib_3, T.ii_37, T.ii_38, T.ip_3, T.s8_37, T.s8_38, T.sl_37, T.sl_38, T.st_37, T.st_38, T.un_37, T.un_38, hg, d1]
    exact hUU
end Ph
