import Derived.Test.YtcbgjjbbeeoekaaDoorE4
set_option maxRecDepth 100000
set_option maxHeartbeats 4000000
set_option linter.unusedSimpArgs false
set_option linter.unusedVariables false
namespace Ph
open Go Go.Proofs
attribute [local irreducible] Value.cells
attribute [local go_sem ↓] y_move y_assign y_pick y_nil y_bin y_un y_fa y_field y_ext y_ia y_ix y_slice y_build y_mf y_rg y_nx y_en y_mm y_lk y_mu y_del y_load y_len y_cap y_min y_max y_conv y_bs y_mk y_alloc y_box y_store y_clear y_app y_callf y_callt s_move s_assign s_pick s_nil s_bin s_un s_fa s_field s_ext s_ia s_ix s_slice s_conv s_build s_bs s_mf s_alloc s_box s_rg s_nx s_en s_mm s_lk s_mu s_del s_load s_store s_len s_clear s_cap s_min s_max s_app s_call q_call q_move q_assign q_pick q_nil q_bin q_un q_fa q_field q_ext q_ia q_ix q_slice q_conv q_build q_mf q_lk q_load q_len q_cap q_min q_max l_nil l_move l_assign l_pick l_nilc l_bin l_un l_fa l_field l_ext l_ia l_ix l_slice l_conv l_build l_mf l_lk l_load l_len l_cap l_min l_max l_call put_eq putN_eq o_nil o_plain o_gate v_nil v_plain v_gate vc_skip vc_region vc_seq vc_cond vc_block vc_loop vc_rf vc_exit vc_ret blk_normal blk_ret blk_exit on_normal on_ret on_exit vc_drawn draw_q s_mk l_bs l_mk l_rg l_nx l_en l_mm l_mu l_del l_alloc l_box l_store l_app l_clear pl_done pl_takeS pl_take pl_alt pl_stop one_plain one_gate
attribute [local go_sem] clear_nil clear_sl onAgg_a onTuple_t onFn_f onFn_y onFunc_f c_int c_nil c_sl c_str sl_sl sl_nil sl_str ix_str ix_agg n_nil n_sl n_str app_eq app_eqZ k_nil k_sl cap_n len_sl len_str len_mn len_m onMap_m onIter_i rg_n rg_m nx_p en_p lk_n lk_m up_m setM_n setM_s del_n del_m kt_s kt_i upd_some upd_none ev_tmp ev_const ev_func rd_some gdst_eq otmp_t otmp_c get_put get_alloc next_put next_alloc get_app next_app init_a resV1 resV2 onPtr_ptr onBool_b onInt_i onSlice_s onSome_s onCells_c lett_eq gate_tt gate_tf gate_ff gate_ft gate_dt gate_df also_eq bin un minmax io_none io_some bo_none bo_some partOf List.getElem?_cons_zero List.getElem?_cons_succ List.getElem?_toArray Option.map_some Option.map_none Option.bind_some ne_eq not_true_eq_false not_false_eq_true false_implies true_implies and_true true_and and_self Bool.false_eq_true Nat.zero_add Nat.add_zero List.size_toArray List.length_cons List.length_nil List.map_toArray List.map_cons List.map_nil Array.getD_eq_getD_getElem? Option.getD_some Bool.not_true Bool.not_false Bool.not_eq_true Option.isNone_some Option.isNone_none List.append_toArray List.append_nil List.nil_append List.cons_append decide_true decide_false in_nil in_cons Bool.and_false Bool.and_true Bool.or_false Bool.true_or Bool.false_or get_mask next_mask get_unmask next_unmask ac_move ac_assign ac_pick ac_nil ac_bin ac_un ac_fa ac_field ac_ext ac_ia ac_ix ac_slice ac_build ac_mf ac_call ac_len ac_lk ac_cap ac_min ac_max accM_m accM_n accM_s accM_t ac_load ac_conv accP_p accS_s accS_n accS_i accS_t fixed_ro fixed_lock fixed_own get_ro next_ro lock_live' lock_cells List.mem_cons List.not_mem_nil or_false false_or or_true true_or and_false false_and IntKind.bits Int.natCast_zero Int.natCast_one size_str data_str list_str mk_str ext_str app_str bytes_str w_byte w_byteu Int.toNat_natCast Int.toNat_zero Int.toNat_one Nat.sub_zero ge_iff_le gt_iff_lt Nat.le_refl Int.le_refl List.drop_zero Int.ofNat_eq_natCast Int.natCast_nonneg Int.sub_zero oc_int oc_bool oc_str oc_ptr oc_sl oc_map oc_func List.set_cons_zero List.set_cons_succ Nat.mul_one List.all_cons List.all_nil Bool.and_self res_nil res_tmp res_cell tup_one tup_two tup_nil fill_nil repl_zero cells_agg List.append_eq List.toList_toArray Nat.zero_mul Nat.one_mul repl_one repl_two onSome_build fill_cons onSome_lit splice_eq cells_int cells_bool cells_str cells_ptr cells_sl cells_map cells_func loadK_n loadK_s load_k storeK_n storeK_s store_k all_arr List.take_zero List.take_succ_cons List.drop_succ_cons List.take_nil List.drop_nil lk_own lk_ro lk_lock lk_lk fixed_lk gate_nt gate_nf gate3_b gate3_u undef Bool.true_and Bool.false_and nx_l nx_r nx_lt put_put resV0
attribute [local go_sem] str_inj size_str
/-! The order of texts. -/
theorem bl_irrefl : ∀ a : List UInt8, Op.bytesLess a a = false
  | [] => rfl
  | x :: a => by unfold Op.bytesLess; simp [bl_irrefl a]
theorem bl_trans : ∀ a b c : List UInt8, Op.bytesLess a b = true → Op.bytesLess b c = true → Op.bytesLess a c = true
  | [], [], _ => by intro h; simp [Op.bytesLess] at h
  | [], _ :: _, [] => by intro _ h; simp [Op.bytesLess] at h
  | [], _ :: _, _ :: _ => by intro _ _; rfl
  | _ :: _, [], _ => by intro h; simp [Op.bytesLess] at h
  | _ :: _, _ :: _, [] => by intro _ h; simp [Op.bytesLess] at h
  | x :: a, y :: b, z :: c => by
    have ih := bl_trans a b c
    simp only [Op.bytesLess, Bool.or_eq_true, Bool.and_eq_true, decide_eq_true_eq, beq_iff_eq]
    rintro (h1 | ⟨rfl, h1⟩) (h2 | ⟨rfl, h2⟩)
    · exact .inl (UInt8.lt_trans h1 h2)
    · exact .inl h1
    · exact .inl h2
    · exact .inr ⟨rfl, ih h1 h2⟩
theorem bl_total : ∀ a b : List UInt8, a ≠ b → Op.bytesLess a b = false → Op.bytesLess b a = true
  | [], [] => by intro h; exact absurd rfl h
  | [], _ :: _ => by intro _ h; simp [Op.bytesLess] at h
  | _ :: _, [] => by intro _ _; rfl
  | x :: a, y :: b => by
    have ih := bl_total a b
    intro h h1
    simp only [Op.bytesLess, Bool.or_eq_false_iff, Bool.or_eq_true, Bool.and_eq_true, decide_eq_true_eq, decide_eq_false_iff_not, beq_iff_eq, Bool.and_eq_false_iff, beq_eq_false_iff_ne] at h1 ⊢
    by_cases hxy : x = y
    · subst hxy
      exact .inr ⟨rfl, ih (fun e => h (by rw [e])) (h1.2.resolve_left fun e => e rfl)⟩
    · refine .inl ?_
      have h2 : ¬ x.toNat < y.toNat := h1.1
      have h3 : x.toNat ≠ y.toNat := fun e => hxy (UInt8.toNat_inj.1 e)
      show y.toNat < x.toNat
      omega

/-- The order of lists of parts, the highest first. -/
def lt : List (List UInt8) → List (List UInt8) → Bool
  | [], [] => false
  | [], _ :: _ => true
  | _ :: _, [] => false
  | a :: x, b :: y => if a = b then lt x y else Op.bytesLess a b
theorem lt_irrefl : ∀ x, lt x x = false
  | [] => rfl
  | a :: x => by unfold lt; rw [if_pos rfl, lt_irrefl x]
theorem lt_total : ∀ x y, x ≠ y → lt x y = false → lt y x = true
  | [], [] => fun h => absurd rfl h
  | [], _ :: _ => by intro _ h; simp [lt] at h
  | _ :: _, [] => by intro _ _; rfl
  | a :: x, b :: y => by
    intro h h1
    unfold lt at h1 ⊢
    by_cases hab : a = b
    · subst hab; rw [if_pos rfl] at h1 ⊢; exact lt_total x y (fun e => h (by rw [e])) h1
    · rw [if_neg hab] at h1; rw [if_neg (Ne.symm hab)]; exact bl_total a b hab h1
theorem lt_trans : ∀ x y z, lt x y = true → lt y z = true → lt x z = true
  | [], [], _ => by intro h; simp [lt] at h
  | [], _ :: _, [] => by intro _ h; simp [lt] at h
  | [], _ :: _, _ :: _ => by intro _ _; rfl
  | _ :: _, [], _ => by intro h; simp [lt] at h
  | _ :: _, _ :: _, [] => by intro _ h; simp [lt] at h
  | a :: x, b :: y, c :: z => by
    unfold lt
    intro h1 h2
    by_cases hab : a = b
    · subst hab
      rw [if_pos rfl] at h1
      by_cases hac : a = c
      · subst hac; rw [if_pos rfl] at h2 ⊢; exact lt_trans x y z h1 h2
      · rw [if_neg hac] at h2 ⊢; exact h2
    · rw [if_neg hab] at h1
      by_cases hbc : b = c
      · subst hbc; rw [if_neg hab]; exact h1
      · rw [if_neg hbc] at h2
        have h3 := bl_trans a b c h1 h2
        rw [if_neg (fun e => by subst e; rw [bl_irrefl] at h3; cases h3)]; exact h3
theorem lt_asymm (x y) (h : lt x y = true) : lt y x = false := by
  cases h2 : lt y x with
  | false => rfl
  | true => have := lt_trans _ _ _ h h2; rw [lt_irrefl] at this; cases this
/-- What bears a list at its front comes behind it. -/
theorem lt_prefix : ∀ x y, lt x (x ++ y) = decide (y ≠ [])
  | [], [] => rfl
  | [], _ :: _ => by simp [lt]
  | a :: x, y => by rw [List.cons_append, lt, if_pos rfl, lt_prefix x y]
/-- Between a list and one that bears it at its front stands nothing else. -/
theorem lt_between : ∀ a b c, a <+: c → lt a b = true → lt b c = true → a <+: b
  | [], b, _ => fun _ _ _ => List.nil_prefix
  | _ :: _, [], _ => by intro _ h; simp [lt] at h
  | _ :: _, _ :: _, [] => by intro _ _ h; simp [lt] at h
  | p :: a, q :: b, r :: c => by
    intro h h1 h2
    obtain ⟨e, h'⟩ := List.cons_prefix_cons.1 h
    subst e
    unfold lt at h1 h2
    by_cases hpq : p = q
    · subst hpq
      rw [if_pos rfl] at h1 h2
      exact List.cons_prefix_cons.2 ⟨rfl, lt_between a b c h' h1 h2⟩
    · rw [if_neg hpq] at h1; rw [if_neg (Ne.symm hpq)] at h2
      have := bl_trans _ _ _ h1 h2
      rw [bl_irrefl] at this; cases this

/-! What Less and Under say of two names. -/
def lessS (x y : Option (List (List UInt8))) : Bool := match x, y with
  | some x, some y => lt x.reverse y.reverse
  | _, _ => false
def undS (x y : Option (List (List UInt8))) : Bool := match x, y with
  | some x, some y => decide (y.length ≤ x.length) && x.drop (x.length - y.length) == y
  | _, _ => false
theorem und_prefix (x y : List (List UInt8)) : undS (some x) (some y) = true ↔ y.reverse <+: x.reverse := by
  rw [List.reverse_prefix]
  simp only [undS, Bool.and_eq_true, decide_eq_true_eq, beq_iff_eq]
  constructor
  · rintro ⟨h1, h2⟩; rw [← h2]; exact List.drop_suffix _ _
  · intro h; exact ⟨h.length_le, (List.suffix_iff_eq_drop.1 h).symm⟩
theorem und_self (x : List (List UInt8)) : undS (some x) (some x) = true := (und_prefix x x).2 (List.prefix_refl _)
theorem und_less (x y : List (List UInt8)) (h : undS (some x) (some y) = true) : x = y ∨ lessS (some y) (some x) = true := by
  obtain ⟨z, hz⟩ := (und_prefix x y).1 h
  by_cases hn : z = []
  · subst hn; rw [List.append_nil] at hz; exact .inl (by have := congrArg List.reverse hz; simpa using this.symm)
  · refine .inr ?_
    show lt y.reverse x.reverse = true
    rw [← hz, lt_prefix]; simp [hn]
theorem less_und (a b c : List (List UInt8)) (h : undS (some c) (some a) = true) (h1 : lessS (some a) (some b) = true) (h2 : lessS (some b) (some c) = true) : undS (some b) (some a) = true :=
  (und_prefix b a).2 (lt_between _ _ _ ((und_prefix c a).1 h) h1 h2)


def cmpT (a b : List UInt8) : Int := if Op.bytesLess a b = true then -1 else if a = b then 0 else 1
def cmpL : List (List UInt8) → List (List UInt8) → Int
  | [], [] => 0
  | [], _ :: _ => -1
  | _ :: _, [] => 1
  | a :: x, b :: y => if cmpT a b = 0 then cmpL x y else cmpT a b
theorem cmpT_zero (a b : List UInt8) : cmpT a b = 0 ↔ a = b := by
  unfold cmpT
  by_cases h : Op.bytesLess a b = true
  · rw [if_pos h]; exact ⟨fun e => (by cases e), fun e => (by subst e; rw [bl_irrefl] at h; cases h)⟩
  · rw [if_neg h]
    by_cases h2 : a = b
    · rw [if_pos h2]; exact ⟨fun _ => h2, fun _ => rfl⟩
    · rw [if_neg h2]; exact ⟨fun e => (by cases e), fun e => absurd e h2⟩
theorem cmpL_lt : ∀ x y, decide (cmpL x y < 0) = lt x y
  | [], [] => rfl
  | [], _ :: _ => rfl
  | _ :: _, [] => rfl
  | a :: x, b :: y => by
    unfold cmpL lt
    by_cases h : a = b
    · rw [if_pos ((cmpT_zero a b).2 h), if_pos h]; exact cmpL_lt x y
    · rw [if_neg (fun e => h ((cmpT_zero a b).1 e)), if_neg h]
      unfold cmpT
      by_cases h1 : Op.bytesLess a b = true
      · rw [if_pos h1, h1]; rfl
      · rw [if_neg h1, if_neg h, Bool.eq_false_iff.mpr h1]; rfl
end Ph
