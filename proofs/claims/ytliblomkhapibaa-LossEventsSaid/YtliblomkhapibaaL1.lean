import Derived.Test.YtliblomkhapibaaTy
set_option maxRecDepth 100000
set_option linter.unusedSimpArgs false
set_option linter.unusedVariables false
namespace Ph
open Go Go.Proofs
attribute [local irreducible] Value.cells
attribute [local go_sem ↓] y_move y_assign y_pick y_nil y_bin y_un y_fa y_field y_ext y_ia y_ix y_slice y_build y_mf y_load y_len y_min y_max y_conv y_bs y_mk y_alloc y_box y_store y_clear y_app y_callf y_callt s_move s_assign s_pick s_nil s_bin s_un s_fa s_field s_ext s_ia s_ix s_slice s_conv s_build s_bs s_mf s_alloc s_box s_load s_store s_len s_clear s_min s_max s_app s_call q_call q_move q_assign q_pick q_nil q_bin q_un q_fa q_field q_ext q_ia q_ix q_slice q_conv q_build q_mf q_load q_len q_min q_max l_nil l_move l_assign l_pick l_nilc l_bin l_un l_fa l_field l_ext l_ia l_ix l_slice l_conv l_build l_mf l_load l_len l_min l_max l_call put_eq putN_eq o_nil o_plain o_gate v_nil v_plain v_gate vc_skip vc_region vc_seq vc_cond vc_block vc_loop vc_rf vc_exit vc_ret blk_normal blk_ret blk_exit on_normal on_ret on_exit vc_drawn draw_q s_mk l_bs l_mk l_alloc l_box l_store l_app l_clear pl_done pl_takeS pl_take pl_alt pl_stop one_plain one_gate
attribute [local go_sem] clear_nil clear_sl onAgg_a onTuple_t onFn_f onFn_y onFunc_f c_int c_nil c_sl c_str sl_sl sl_nil sl_str ix_str ix_agg n_nil n_sl n_str app_eq k_nil k_sl len_sl len_str upd_some upd_none ev_tmp ev_const ev_func rd_some gdst_eq otmp_t otmp_c get_put get_alloc next_put next_alloc get_app next_app init_a resV1 resV2 onPtr_ptr onBool_b onInt_i onSlice_s onSome_s onCells_c lett_eq gate_tt gate_tf gate_ff gate_ft gate_dt gate_df also_eq bin un minmax io_none io_some bo_none bo_some partOf List.getElem?_cons_zero List.getElem?_cons_succ List.getElem?_toArray Option.map_some Option.map_none Option.bind_some ne_eq not_true_eq_false not_false_eq_true false_implies true_implies and_true true_and and_self Bool.false_eq_true Nat.zero_add Nat.add_zero List.size_toArray List.length_cons List.length_nil List.map_toArray List.map_cons List.map_nil Array.getD_eq_getD_getElem? Option.getD_some Bool.not_true Bool.not_false Bool.not_eq_true Option.isNone_some Option.isNone_none List.append_toArray List.append_nil List.nil_append List.cons_append decide_true decide_false in_nil in_cons Bool.and_false Bool.and_true Bool.or_false Bool.true_or Bool.false_or get_mask next_mask get_unmask next_unmask ac_move ac_assign ac_pick ac_nil ac_bin ac_un ac_fa ac_field ac_ext ac_ia ac_ix ac_slice ac_build ac_mf ac_call ac_load ac_conv accP_p accS_s accS_n accS_i accS_t fixed_ro fixed_lock fixed_own get_ro next_ro lock_live' lock_cells List.mem_cons List.not_mem_nil or_false false_or or_true true_or and_false false_and IntKind.bits Int.natCast_zero Int.natCast_one size_str data_str list_str mk_str ext_str app_str bytes_str w_byte w_byteu Int.toNat_natCast Int.toNat_zero Int.toNat_one Nat.sub_zero ge_iff_le gt_iff_lt Nat.le_refl Int.le_refl List.drop_zero Int.ofNat_eq_natCast Int.natCast_nonneg Int.sub_zero oc_int oc_bool oc_str oc_ptr oc_sl oc_map oc_func List.set_cons_zero List.set_cons_succ Nat.mul_one List.all_cons List.all_nil Bool.and_self res_nil res_tmp res_cell tup_one tup_two tup_nil fill_nil repl_zero cells_agg List.append_eq List.toList_toArray Nat.zero_mul Nat.one_mul repl_one repl_two onSome_build fill_cons onSome_lit splice_eq cells_int cells_bool cells_str cells_ptr cells_sl cells_map cells_func loadK_n loadK_s load_k storeK_n storeK_s store_k all_arr List.take_zero List.take_succ_cons List.drop_succ_cons List.take_nil List.drop_nil lk_own lk_ro lk_lock lk_lk fixed_lk gate_nt gate_nf gate3_b gate3_u undef Bool.true_and Bool.false_and nx_l nx_r nx_lt put_put resV0
theorem hm : Try.prog.follows .mixedOrders = true := by kernel_rfl
/-! The library's IndexFunc, ContainsFunc, when what is asked only looks. -/
structure Sp where
  fr : Int
  to : Int
def spE : Enc Sp := ⟨2, fun x => [.int .i64 x.fr, .int .i64 x.to], fun _ => rfl, fun _ => rfl⟩
structure Pk where
  num : Int
  size : Int
  at_ : Int
  asks : Bool
def pkE : Enc Pk := ⟨4, fun x => [.int .i64 x.num, .int .i64 x.size, .int .i64 x.at_, .bool x.asks], fun _ => rfl, fun _ => rfl⟩
def idxOf {α : Type} (p : α → Bool) (l : List α) : Int := match l.findIdx? p with | some i => i | none => -1
def seen {α : Type} (p : α → Bool) (l : List α) : Nat := match l.findIdx? p with | some i => i + 1 | none => l.length
theorem find_lt {α : Type} {p : α → Bool} {l : List α} {i : Nat} {x : α} (hx : l[i]? = some x) (hp : p x = true) (hn : ∀ (j : Nat) y, j < i → l[j]? = some y → p y = false) : l.findIdx? p = some i := by
  have hi := List.getElem?_eq_some_iff.1 hx
  rw [List.findIdx?_eq_some_iff_getElem]
  refine ⟨hi.1, by rw [hi.2]; exact hp, fun j hj => ?_⟩
  have := hn j (l[j]'(Nat.lt_trans hj hi.1)) hj (List.getElem?_eq_getElem _)
  rw [this]; simp
theorem find_none {α : Type} {p : α → Bool} {l : List α} (hn : ∀ (j : Nat) y, l[j]? = some y → p y = false) : l.findIdx? p = none := by
  rw [List.findIdx?_eq_none_iff]
  intro x hx
  obtain ⟨j, hj⟩ := List.getElem?_of_mem hx
  exact hn j x hj
theorem idxOf_lt {α : Type} {p : α → Bool} {l : List α} {i : Nat} {x : α} (hx : l[i]? = some x) (hp : p x = true) (hn : ∀ (j : Nat) y, j < i → l[j]? = some y → p y = false) : idxOf p l = i := by
  rw [idxOf, find_lt hx hp hn]
theorem idxOf_none {α : Type} {p : α → Bool} {l : List α} (hn : ∀ (j : Nat) y, l[j]? = some y → p y = false) : idxOf p l = -1 := by
  rw [idxOf, find_none hn]
theorem seen_lt {α : Type} {p : α → Bool} {l : List α} {i : Nat} {x : α} (hx : l[i]? = some x) (hp : p x = true) (hn : ∀ (j : Nat) y, j < i → l[j]? = some y → p y = false) : seen p l = i + 1 := by
  rw [seen, find_lt hx hp hn]
theorem seen_none {α : Type} {p : α → Bool} {l : List α} (hn : ∀ (j : Nat) y, l[j]? = some y → p y = false) : seen p l = l.length := by
  rw [seen, find_none hn]
theorem any_idx {α : Type} {p : α → Bool} {l : List α} : decide (0 ≤ idxOf p l) = l.any p := by
  rw [idxOf]
  cases h : l.findIdx? p with
  | none =>
    rw [List.findIdx?_eq_none_iff] at h
    have : l.any p = false := List.any_eq_false.2 fun x hx => by rw [h x hx]; simp
    rw [this]; rfl
  | some i =>
    rw [List.findIdx?_eq_some_iff_getElem] at h
    obtain ⟨hi, hp, _⟩ := h
    have : l.any p = true := List.any_eq_true.2 ⟨_, List.getElem_mem hi, hp⟩
    rw [this]; simp
/-- slices.IndexFunc: what is asked may do something -/
theorem IndexSp_ph (h : Heap) (v : Value) (l : List Sp) (g : Nat) (cap : Array Value) (p : Sp → Bool) (J : Nat → Heap → Prop) (hl : l.length < 9223372036854775807) (hg : goodFunc Try.prog g = true)
    (h0 : J 0 h) (hrow : ∀ i H, J i H → RowIn spE H v l)
    (hc : ∀ (i : Nat) (x : Sp) (H : Heap), l[i]? = some x → (∀ (j : Nat) y, j < i → l[j]? = some y → p y = false) → J i H → @CallsH Try.prog g (#[.agg (spE.enc x).toArray] ++ cap) H ⟨fun u H' => u = .bool (p x) ∧ J (i + 1) H'⟩) :
    @CallsH Try.prog 48 #[v, .func (.func g) #[] cap] h ⟨fun u H => u = .int .i64 (idxOf p l) ∧ J (seen p l) H⟩ := by
  obtain ⟨A, st, hv⟩ : ∃ A st, v = .slice A l.length st := by rcases hrow 0 h h0 with ⟨rfl, rfl⟩ | ⟨q, off, vs, o, rfl, _, _⟩ <;> exact ⟨_, _, rfl⟩
  (refine calls_of_vc [] hm Try.func48 rfl (ts := [4]) rfl (by kernel_rfl) (by simp) ?_; simp (config := { dsimp := false }) only [go_sem, reduceIte, Nat.reduceEqDiff, reduceCtorEq, Nat.reduceAdd, Nat.reduceMul, Int.reduceToNat, Int.reduceLE, Int.reduceLT, Int.reduceEq, Int.reduceNe, Nat.reduceLeDiff, Int.reducePow, Nat.reducePow, Nat.reduceLT, Nat.reduceSub, Nat.reduceMod, Nat.reduceDiv, T.ag_32, T.es_33, T.ib_3, T.ii_33, T.ip_3, T.s8_33, T.sl_33, T.st_33, T.un_33, init_a, hv])
  refine loop_intro [] hm (fun r H => ∃ i : Nat, i ≤ l.length ∧ J i H ∧ r 0 = v ∧ r 1 = .func (.func g) #[] cap ∧ r 7 = .int .i64 l.length ∧ r 8 = .int .i64 i ∧ ∀ (j : Nat) y, j < i → l[j]? = some y → p y = false) (fun r _ => match r 8 with | .int _ i => l.length - i.toNat | _ => 0) ?_ ?_
  · exact ⟨0, by omega, h0, by simp [upd, initR, hv], by simp [upd, initR], by simp [upd], by simp [upd], fun j y hj => by omega⟩
  · rintro r H ⟨i, hi, hJ, q0, q1, q7, q8, hn⟩
    by_cases hlt : i < l.length
    · have hx := List.getElem?_eq_getElem hlt
      rcases hrow i H hJ with ⟨_, hnil⟩ | ⟨q, off, vs, o, hv', hq, hR⟩
      · rw [hnil] at hlt; simp at hlt
      · rw [hv'] at q0
        have ha := (hR.at hx)
        have h1' : List.take 2 (List.drop (off + i * 2) vs) = spE.enc l[i] := ha.1
        have h2' : off + i * 2 + 2 ≤ vs.length := ha.2
        have hlt' : ((i : Int) < (l.length : Int)) = True := eq_true (by omega)
        have hcall := hc i l[i] H hx hn hJ
        generalize l[i] = x at hx h1' hcall
        simp (config := { dsimp := false }) only [go_sem, reduceIte, Nat.reduceEqDiff, reduceCtorEq, Nat.reduceAdd, Nat.reduceMul, Int.reduceToNat, Int.reduceLE, Int.reduceLT, Int.reduceEq, Int.reduceNe, Nat.reduceLeDiff, Int.reducePow, Nat.reducePow, Nat.reduceLT, Nat.reduceSub, Nat.reduceMod, Nat.reduceDiv, T.ag_32, T.es_33, T.ib_3, T.ii_33, T.ip_3, T.s8_33, T.sl_33, T.st_33, T.un_33, q0, q1, q7, q8, hq, h1', h2', hlt', hg]
        have e : (#[Value.agg (spE.enc x).toArray] ++ cap) = #[Value.agg (spE.enc x).toArray] ++ cap := rfl
        refine ⟨rfl, hcall.mono fun u H' ⟨hu, hJ'⟩ => ?_⟩
        cases hp : p x with
        | true =>
          rw [hp] at hu
          simp (config := { dsimp := false }) only [go_sem, reduceIte, Nat.reduceEqDiff, reduceCtorEq, Nat.reduceAdd, Nat.reduceMul, Int.reduceToNat, Int.reduceLE, Int.reduceLT, Int.reduceEq, Int.reduceNe, Nat.reduceLeDiff, Int.reducePow, Nat.reducePow, Nat.reduceLT, Nat.reduceSub, Nat.reduceMod, Nat.reduceDiv, T.ag_32, T.es_33, T.ib_3, T.ii_33, T.ip_3, T.s8_33, T.sl_33, T.st_33, T.un_33, q0, q1, q7, q8, hu]
          exact ⟨(idxOf_lt hx hp hn).symm ▸ rfl, by rw [seen_lt hx hp hn]; exact hJ'⟩
        | false =>
          rw [hp] at hu
          have w1 : IntKind.i64.wrap ((i : Int) + 1) = ((i + 1 : Nat) : Int) := by rw [i64wrap] <;> omega
          simp (config := { dsimp := false }) only [go_sem, reduceIte, Nat.reduceEqDiff, reduceCtorEq, Nat.reduceAdd, Nat.reduceMul, Int.reduceToNat, Int.reduceLE, Int.reduceLT, Int.reduceEq, Int.reduceNe, Nat.reduceLeDiff, Int.reducePow, Nat.reducePow, Nat.reduceLT, Nat.reduceSub, Nat.reduceMod, Nat.reduceDiv, T.ag_32, T.es_33, T.ib_3, T.ii_33, T.ip_3, T.s8_33, T.sl_33, T.st_33, T.un_33, q0, q1, q7, q8, hu, w1]
          refine ⟨⟨i + 1, hlt, hJ', hv'.symm, rfl, fun j y hj hy => ?_⟩, by omega⟩
          by_cases e2 : j = i
          · subst e2; rw [hx] at hy; cases hy; exact hp
          · exact hn j y (by omega) hy
    · have hlt' : ((i : Int) < (l.length : Int)) = False := eq_false (by omega)
      simp (config := { dsimp := false }) only [go_sem, reduceIte, Nat.reduceEqDiff, reduceCtorEq, Nat.reduceAdd, Nat.reduceMul, Int.reduceToNat, Int.reduceLE, Int.reduceLT, Int.reduceEq, Int.reduceNe, Nat.reduceLeDiff, Int.reducePow, Nat.reducePow, Nat.reduceLT, Nat.reduceSub, Nat.reduceMod, Nat.reduceDiv, T.ag_32, T.es_33, T.ib_3, T.ii_33, T.ip_3, T.s8_33, T.sl_33, T.st_33, T.un_33, q0, q1, q7, q8, hlt']
      have hall : ∀ (j : Nat) y, l[j]? = some y → p y = false := fun j y hy => hn j y (by have := (List.getElem?_eq_some_iff.1 hy).1; omega) hy
      have e3 : i = l.length := by omega
      exact ⟨(idxOf_none hall).symm ▸ rfl, by rw [seen_none hall, ← e3]; exact hJ⟩

/-- slices.IndexFunc: what is asked may do something -/
theorem IndexPk_ph (h : Heap) (v : Value) (l : List Pk) (g : Nat) (cap : Array Value) (p : Pk → Bool) (J : Nat → Heap → Prop) (hl : l.length < 9223372036854775807) (hg : goodFunc Try.prog g = true)
    (h0 : J 0 h) (hrow : ∀ i H, J i H → RowIn pkE H v l)
    (hc : ∀ (i : Nat) (x : Pk) (H : Heap), l[i]? = some x → (∀ (j : Nat) y, j < i → l[j]? = some y → p y = false) → J i H → @CallsH Try.prog g (#[.agg (pkE.enc x).toArray] ++ cap) H ⟨fun u H' => u = .bool (p x) ∧ J (i + 1) H'⟩) :
    @CallsH Try.prog 49 #[v, .func (.func g) #[] cap] h ⟨fun u H => u = .int .i64 (idxOf p l) ∧ J (seen p l) H⟩ := by
  obtain ⟨A, st, hv⟩ : ∃ A st, v = .slice A l.length st := by rcases hrow 0 h h0 with ⟨rfl, rfl⟩ | ⟨q, off, vs, o, rfl, _, _⟩ <;> exact ⟨_, _, rfl⟩
  (refine calls_of_vc [] hm Try.func49 rfl (ts := [4]) rfl (by kernel_rfl) (by simp) ?_; simp (config := { dsimp := false }) only [go_sem, reduceIte, Nat.reduceEqDiff, reduceCtorEq, Nat.reduceAdd, Nat.reduceMul, Int.reduceToNat, Int.reduceLE, Int.reduceLT, Int.reduceEq, Int.reduceNe, Nat.reduceLeDiff, Int.reducePow, Nat.reducePow, Nat.reduceLT, Nat.reduceSub, Nat.reduceMod, Nat.reduceDiv, T.ag_66, T.es_61, T.ib_3, T.ii_61, T.ip_3, T.s8_61, T.sl_61, T.st_61, T.un_61, init_a, hv])
  refine loop_intro [] hm (fun r H => ∃ i : Nat, i ≤ l.length ∧ J i H ∧ r 0 = v ∧ r 1 = .func (.func g) #[] cap ∧ r 7 = .int .i64 l.length ∧ r 8 = .int .i64 i ∧ ∀ (j : Nat) y, j < i → l[j]? = some y → p y = false) (fun r _ => match r 8 with | .int _ i => l.length - i.toNat | _ => 0) ?_ ?_
  · exact ⟨0, by omega, h0, by simp [upd, initR, hv], by simp [upd, initR], by simp [upd], by simp [upd], fun j y hj => by omega⟩
  · rintro r H ⟨i, hi, hJ, q0, q1, q7, q8, hn⟩
    by_cases hlt : i < l.length
    · have hx := List.getElem?_eq_getElem hlt
      rcases hrow i H hJ with ⟨_, hnil⟩ | ⟨q, off, vs, o, hv', hq, hR⟩
      · rw [hnil] at hlt; simp at hlt
      · rw [hv'] at q0
        have ha := (hR.at hx)
        have h1' : List.take 4 (List.drop (off + i * 4) vs) = pkE.enc l[i] := ha.1
        have h2' : off + i * 4 + 4 ≤ vs.length := ha.2
        have hlt' : ((i : Int) < (l.length : Int)) = True := eq_true (by omega)
        have hcall := hc i l[i] H hx hn hJ
        generalize l[i] = x at hx h1' hcall
        simp (config := { dsimp := false }) only [go_sem, reduceIte, Nat.reduceEqDiff, reduceCtorEq, Nat.reduceAdd, Nat.reduceMul, Int.reduceToNat, Int.reduceLE, Int.reduceLT, Int.reduceEq, Int.reduceNe, Nat.reduceLeDiff, Int.reducePow, Nat.reducePow, Nat.reduceLT, Nat.reduceSub, Nat.reduceMod, Nat.reduceDiv, T.ag_66, T.es_61, T.ib_3, T.ii_61, T.ip_3, T.s8_61, T.sl_61, T.st_61, T.un_61, q0, q1, q7, q8, hq, h1', h2', hlt', hg]
        have e : (#[Value.agg (pkE.enc x).toArray] ++ cap) = #[Value.agg (pkE.enc x).toArray] ++ cap := rfl
        refine ⟨rfl, hcall.mono fun u H' ⟨hu, hJ'⟩ => ?_⟩
        cases hp : p x with
        | true =>
          rw [hp] at hu
          simp (config := { dsimp := false }) only [go_sem, reduceIte, Nat.reduceEqDiff, reduceCtorEq, Nat.reduceAdd, Nat.reduceMul, Int.reduceToNat, Int.reduceLE, Int.reduceLT, Int.reduceEq, Int.reduceNe, Nat.reduceLeDiff, Int.reducePow, Nat.reducePow, Nat.reduceLT, Nat.reduceSub, Nat.reduceMod, Nat.reduceDiv, T.ag_66, T.es_61, T.ib_3, T.ii_61, T.ip_3, T.s8_61, T.sl_61, T.st_61, T.un_61, q0, q1, q7, q8, hu]
          exact ⟨(idxOf_lt hx hp hn).symm ▸ rfl, by rw [seen_lt hx hp hn]; exact hJ'⟩
        | false =>
          rw [hp] at hu
          have w1 : IntKind.i64.wrap ((i : Int) + 1) = ((i + 1 : Nat) : Int) := by rw [i64wrap] <;> omega
          simp (config := { dsimp := false }) only [go_sem, reduceIte, Nat.reduceEqDiff, reduceCtorEq, Nat.reduceAdd, Nat.reduceMul, Int.reduceToNat, Int.reduceLE, Int.reduceLT, Int.reduceEq, Int.reduceNe, Nat.reduceLeDiff, Int.reducePow, Nat.reducePow, Nat.reduceLT, Nat.reduceSub, Nat.reduceMod, Nat.reduceDiv, T.ag_66, T.es_61, T.ib_3, T.ii_61, T.ip_3, T.s8_61, T.sl_61, T.st_61, T.un_61, q0, q1, q7, q8, hu, w1]
          refine ⟨⟨i + 1, hlt, hJ', hv'.symm, rfl, fun j y hj hy => ?_⟩, by omega⟩
          by_cases e2 : j = i
          · subst e2; rw [hx] at hy; cases hy; exact hp
          · exact hn j y (by omega) hy
    · have hlt' : ((i : Int) < (l.length : Int)) = False := eq_false (by omega)
      simp (config := { dsimp := false }) only [go_sem, reduceIte, Nat.reduceEqDiff, reduceCtorEq, Nat.reduceAdd, Nat.reduceMul, Int.reduceToNat, Int.reduceLE, Int.reduceLT, Int.reduceEq, Int.reduceNe, Nat.reduceLeDiff, Int.reducePow, Nat.reducePow, Nat.reduceLT, Nat.reduceSub, Nat.reduceMod, Nat.reduceDiv, T.ag_66, T.es_61, T.ib_3, T.ii_61, T.ip_3, T.s8_61, T.sl_61, T.st_61, T.un_61, q0, q1, q7, q8, hlt']
      have hall : ∀ (j : Nat) y, l[j]? = some y → p y = false := fun j y hy => hn j y (by have := (List.getElem?_eq_some_iff.1 hy).1; omega) hy
      have e3 : i = l.length := by omega
      exact ⟨(idxOf_none hall).symm ▸ rfl, by rw [seen_none hall, ← e3]; exact hJ⟩

/-- slices.ContainsFunc: what is asked only looks -/
theorem ContainsSp_ph (h : Heap) (v : Value) (l : List Sp) (g : Nat) (cap : Array Value) (p : Sp → Bool) (hl : l.length < 9223372036854775807) (hg : goodFunc Try.prog g = true)
    (hrow : RowIn spE h v l) (hc : ∀ x ∈ l, @CallsH Try.prog g (#[.agg (spE.enc x).toArray] ++ cap) h.ro ⟨fun u _ => u = .bool (p x)⟩) :
    @CallsH Try.prog 31 #[v, .func (.func g) #[] cap] h ⟨fun u H => u = .bool (l.any p) ∧ H = h⟩ := by
  (refine calls_of_vc [] hm Try.func31 rfl (ts := [4]) rfl (by kernel_rfl) (by simp) ?_; simp (config := { dsimp := false }) only [go_sem, reduceIte, Nat.reduceEqDiff, reduceCtorEq, Nat.reduceAdd, Nat.reduceMul, Int.reduceToNat, Int.reduceLE, Int.reduceLT, Int.reduceEq, Int.reduceNe, Nat.reduceLeDiff, Int.reducePow, Nat.reducePow, Nat.reduceLT, Nat.reduceSub, Nat.reduceMod, Nat.reduceDiv, T.gf_48, T.ib_3, T.ip_3, init_a, hg])
  refine (IndexSp_ph h v l g cap p (fun _ H => H = h) hl hg rfl (fun i H e => e ▸ hrow) (fun i x H hx _ e => ?_)).mono fun u H ⟨hu, hH⟩ => ?_
  · subst e
    exact CallsH.pure _ rfl (hc x (List.mem_of_getElem? hx)) ⟨rfl, rfl⟩
  · subst hu
    simp (config := { dsimp := false }) only [go_sem, reduceIte, Nat.reduceEqDiff, reduceCtorEq, Nat.reduceAdd, Nat.reduceMul, Int.reduceToNat, Int.reduceLE, Int.reduceLT, Int.reduceEq, Int.reduceNe, Nat.reduceLeDiff, Int.reducePow, Nat.reducePow, Nat.reduceLT, Nat.reduceSub, Nat.reduceMod, Nat.reduceDiv, T.gf_48, T.ib_3, T.ip_3]
    exact ⟨by rw [any_idx], hH⟩

/-- slices.ContainsFunc: what is asked only looks -/
theorem ContainsPk_ph (h : Heap) (v : Value) (l : List Pk) (g : Nat) (cap : Array Value) (p : Pk → Bool) (hl : l.length < 9223372036854775807) (hg : goodFunc Try.prog g = true)
    (hrow : RowIn pkE h v l) (hc : ∀ x ∈ l, @CallsH Try.prog g (#[.agg (pkE.enc x).toArray] ++ cap) h.ro ⟨fun u _ => u = .bool (p x)⟩) :
    @CallsH Try.prog 33 #[v, .func (.func g) #[] cap] h ⟨fun u H => u = .bool (l.any p) ∧ H = h⟩ := by
  (refine calls_of_vc [] hm Try.func33 rfl (ts := [4]) rfl (by kernel_rfl) (by simp) ?_; simp (config := { dsimp := false }) only [go_sem, reduceIte, Nat.reduceEqDiff, reduceCtorEq, Nat.reduceAdd, Nat.reduceMul, Int.reduceToNat, Int.reduceLE, Int.reduceLT, Int.reduceEq, Int.reduceNe, Nat.reduceLeDiff, Int.reducePow, Nat.reducePow, Nat.reduceLT, Nat.reduceSub, Nat.reduceMod, Nat.reduceDiv, T.gf_49, T.ib_3, T.ip_3, init_a, hg])
  refine (IndexPk_ph h v l g cap p (fun _ H => H = h) hl hg rfl (fun i H e => e ▸ hrow) (fun i x H hx _ e => ?_)).mono fun u H ⟨hu, hH⟩ => ?_
  · subst e
    exact CallsH.pure _ rfl (hc x (List.mem_of_getElem? hx)) ⟨rfl, rfl⟩
  · subst hu
    simp (config := { dsimp := false }) only [go_sem, reduceIte, Nat.reduceEqDiff, reduceCtorEq, Nat.reduceAdd, Nat.reduceMul, Int.reduceToNat, Int.reduceLE, Int.reduceLT, Int.reduceEq, Int.reduceNe, Nat.reduceLeDiff, Int.reducePow, Nat.reducePow, Nat.reduceLT, Nat.reduceSub, Nat.reduceMod, Nat.reduceDiv, T.gf_49, T.ib_3, T.ip_3]
    exact ⟨by rw [any_idx], hH⟩

end Ph
