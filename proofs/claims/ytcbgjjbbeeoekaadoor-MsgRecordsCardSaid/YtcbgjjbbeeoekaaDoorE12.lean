import Derived.Test.YtcbgjjbbeeoekaaDoorE11
import Derived.Test.YtcbgjjbbeeoekaaDoorPhRow
set_option maxRecDepth 100000
set_option maxHeartbeats 4000000
set_option linter.unusedSimpArgs false
set_option linter.unusedVariables false
namespace Ph
open Go Go.Proofs
attribute [local irreducible] Value.cells
attribute [local go_sem ↓] y_move y_assign y_pick y_nil y_bin y_un y_fa y_field y_ext y_ia y_ix y_slice y_build y_mf y_rg y_nx y_en y_mm y_lk y_mu y_del y_load y_len y_cap y_min y_max y_conv y_bs y_mk y_alloc y_box y_store y_clear y_app y_callf y_callt s_move s_assign s_pick s_nil s_bin s_un s_fa s_field s_ext s_ia s_ix s_slice s_conv s_build s_bs s_mf s_alloc s_box s_rg s_nx s_en s_mm s_lk s_mu s_del s_load s_store s_len s_clear s_cap s_min s_max s_app s_call q_call q_move q_assign q_pick q_nil q_bin q_un q_fa q_field q_ext q_ia q_ix q_slice q_conv q_build q_mf q_lk q_load q_len q_cap q_min q_max l_nil l_move l_assign l_pick l_nilc l_bin l_un l_fa l_field l_ext l_ia l_ix l_slice l_conv l_build l_mf l_lk l_load l_len l_cap l_min l_max l_call put_eq putN_eq o_nil o_plain o_gate v_nil v_plain v_gate vc_skip vc_region vc_seq vc_cond vc_block vc_loop vc_rf vc_exit vc_ret blk_normal blk_ret blk_exit on_normal on_ret on_exit vc_drawn draw_q s_mk l_bs l_mk l_rg l_nx l_en l_mm l_mu l_del l_alloc l_box l_store l_app l_clear pl_done pl_takeS pl_take pl_alt pl_stop one_plain one_gate
attribute [local go_sem] clear_nil clear_sl onAgg_a onTuple_t onFn_f onFn_y onFunc_f c_int c_nil c_sl c_str sl_sl sl_nil sl_str ix_str ix_agg n_nil n_sl n_str app_eq app_eqZ k_nil k_sl cap_n len_sl len_str len_mn len_m onMap_m onIter_i rg_n rg_m nx_p en_p lk_n lk_m up_m setM_n setM_s del_n del_m kt_s kt_i upd_some upd_none ev_tmp ev_const ev_func rd_some gdst_eq otmp_t otmp_c get_put get_alloc next_put next_alloc get_app next_app init_a resV1 resV2 onPtr_ptr onBool_b onInt_i onSlice_s onSome_s onCells_c lett_eq gate_tt gate_tf gate_ff gate_ft gate_dt gate_df also_eq bin un minmax io_none io_some bo_none bo_some partOf List.getElem?_cons_zero List.getElem?_cons_succ List.getElem?_toArray Option.map_some Option.map_none Option.bind_some ne_eq not_true_eq_false not_false_eq_true false_implies true_implies and_true true_and and_self Bool.false_eq_true Nat.zero_add Nat.add_zero List.size_toArray List.length_cons List.length_nil List.map_toArray List.map_cons List.map_nil Array.getD_eq_getD_getElem? Option.getD_some Bool.not_true Bool.not_false Bool.not_eq_true Option.isNone_some Option.isNone_none List.append_toArray List.append_nil List.nil_append List.cons_append decide_true decide_false in_nil in_cons Bool.and_false Bool.and_true Bool.or_false Bool.true_or Bool.false_or get_mask next_mask get_unmask next_unmask ac_move ac_assign ac_pick ac_nil ac_bin ac_un ac_fa ac_field ac_ext ac_ia ac_ix ac_slice ac_build ac_mf ac_call ac_len ac_lk ac_cap ac_min ac_max accM_m accM_n accM_s accM_t ac_load ac_conv accP_p accS_s accS_n accS_i accS_t fixed_ro fixed_lock fixed_own get_ro next_ro lock_live' lock_cells List.mem_cons List.not_mem_nil or_false false_or or_true true_or and_false false_and IntKind.bits Int.natCast_zero Int.natCast_one size_str data_str list_str mk_str ext_str app_str bytes_str w_byte w_byteu Int.toNat_natCast Int.toNat_zero Int.toNat_one Nat.sub_zero ge_iff_le gt_iff_lt Nat.le_refl Int.le_refl List.drop_zero Int.ofNat_eq_natCast Int.natCast_nonneg Int.sub_zero oc_int oc_bool oc_str oc_ptr oc_sl oc_map oc_func List.set_cons_zero List.set_cons_succ Nat.mul_one List.all_cons List.all_nil Bool.and_self res_nil res_tmp res_cell tup_one tup_two tup_nil fill_nil repl_zero cells_agg List.append_eq List.toList_toArray Nat.zero_mul Nat.one_mul repl_one repl_two onSome_build fill_cons onSome_lit splice_eq cells_int cells_bool cells_str cells_ptr cells_sl cells_map cells_func loadK_n loadK_s load_k storeK_n storeK_s store_k all_arr List.take_zero List.take_succ_cons List.drop_succ_cons List.take_nil List.drop_nil lk_own lk_ro lk_lock lk_lk fixed_lk gate_nt gate_nf gate3_b gate3_u undef Bool.true_and Bool.false_and nx_l nx_r nx_lt put_put resV0
attribute [local go_sem] str_inj size_str
/-! NameShort. -/
def i8E : Enc Int := ⟨1, fun x => [.int .u8 x], fun _ => rfl, fun _ => rfl⟩
theorem ext_all {α : Type} {l le : List α} (h1 : le.length = l.length) (h2 : ∀ (i : Nat) x, l[i]? = some x → ∃ e, le[i]? = some e ∧ e = x) : le = l := by
  apply List.ext_getElem?
  intro i
  cases hx : l[i]? with
  | none => rw [List.getElem?_eq_none_iff] at hx ⊢; omega
  | some x => obtain ⟨e, h3, rfl⟩ := h2 i x hx; exact h3
theorem u8_row {h : Heap} {v : Value} {l : List Int} (hs : SlR (Rd.int .u8) h v l) (hw : ∀ x ∈ l, (Lit.int .u8 x).wf = true) : ∃ B : List UInt8, B.length = l.length ∧ RowIn u8E h v B ∧ ∀ A n st, v = .slice (some A) n st → A.block < h.next := by
  obtain ⟨le, h1, h2, h3, h4⟩ := slr_row (Rd.int .u8) i8E rfl (by decide) (fun x e => e = x) (fun x vs hx => ⟨x, hx, rfl⟩) hs
  obtain rfl := ext_all h2 h3
  refine ⟨le.map fun x => UInt8.ofNat x.toNat, by rw [List.length_map], ?_, h4⟩
  have e : ∀ m : List Int, (∀ x ∈ m, (Lit.int .u8 x).wf = true) → i8E.flat m = u8E.flat (m.map fun x => UInt8.ofNat x.toNat) := by
    intro m hm
    induction m with
    | nil => rfl
    | cons x m ih =>
      rw [List.map_cons, flat_cons, flat_cons, ih fun y hy => hm y (List.mem_cons_of_mem _ hy)]
      have h0 : 0 ≤ x ∧ x ≤ 255 := by
        have := hm x List.mem_cons_self
        simpa [Lit.wf, IntKind.min, IntKind.max, IntKind.bits, IntKind.signed] using this
      have : ((UInt8.ofNat x.toNat).toNat : Int) = x := by rw [UInt8.toNat_ofNat']; omega
      show [Value.int .u8 x] ++ _ = [Value.int .u8 ((UInt8.ofNat x.toNat).toNat : Int)] ++ _
      rw [this]
  rcases h1 with ⟨h5, h6⟩ | ⟨q, off, vs, o, h5, h6, h7⟩
  · exact .inl ⟨h5, by rw [h6]; rfl⟩
  · exact .inr ⟨q, off, vs, o, by rw [List.length_map]; exact h5, h6, by rw [List.length_map]; exact h7.1, by rw [← e le hw, List.length_map]; exact h7.2⟩
theorem len_in {α : Type} {E : Enc α} {P : Program} {h H : Heap} {w : Value} {l : List α} (hr : RowIn E h w l) {t : Nat} {K : Value → Prop} : @lenH P (some t) w H ⟨K⟩ = @onSome _ (if isSl P t then some (.int .i64 l.length) else none) ⟨K⟩ := by
  obtain ⟨A, st, rfl⟩ := hr.form
  exact len_sl
theorem conv_in {P : Program} {s t : Nat} {r : Regs} {d : Option Nat} {K : Kt} {h : Heap} {w : Value} {l : List UInt8} (hr : RowIn u8E h w l) : @convC P s t r d w h ⟨K⟩ = @also (isStr P t = true ∧ sliceOfU8 P s = true) ⟨put K r d (.string (str l)) h⟩ := by
  rcases hr with ⟨rfl, rfl⟩ | ⟨q, off, vs, o, rfl, hg, hR⟩
  · exact c_nil
  · have r2 : List.take l.length (List.drop off vs) = bc l := by have := hR.2; rw [u8_flat, show u8E.k = 1 from rfl, Nat.mul_one] at this; exact this
    have l2 : off + l.length ≤ vs.length := by have := hR.1; rw [show u8E.k = 1 from rfl, Nat.mul_one] at this; exact this
    rw [c_sl]
    simp only [hg, onCells_c, r2, bc_val, onSome_s, also_eq, l2, true_and]
    rfl
theorem TabR.keep {h H : Heap} {p : Nat} {M : List Nat} {t : List (List UInt8 × Nat)} (hT : TabR h p M t) (hn : h.next ≤ H.next) (hp : H.get p = h.get p) (hM : ∀ m ∈ M, H.get m = h.get m) : TabR H p M t := by
  obtain ⟨h1, h2⟩ := hT
  refine ⟨by omega, ?_⟩
  rcases h2 with ⟨h3, h4, h5⟩ | ⟨id, cl, l, rfl, h4, h5, h6, h7, h8⟩
  · exact .inl ⟨hp.trans h3, h4, h5⟩
  · exact .inr ⟨id, cl, l, rfl, hp.trans h4, by omega, h6, (hM id (by simp)).trans h7, h8⟩
theorem TabR.upd {h H : Heap} {p : Nat} {M F : List Nat} {t : List (List UInt8 × Nat)} (hT : TabR h p M t) (hU : Upd h H F) (hp : p ∉ F) (hM : ∀ m ∈ M, m ∉ F) : TabR H p M t := by
  refine hT.keep hU.1 (hU.2 p hT.1 hp) fun m hm => hU.2 m ?_ (hM m hm)
  rcases hT.2 with ⟨_, _, rfl⟩ | ⟨id, cl, l, rfl, _, h5, _⟩
  · cases hm
  · simp at hm; omega
theorem mem_len {l : List (List UInt8)} {x : List UInt8} (hx : x ∈ l) : x.length + 1 ≤ (l.map fun x => x.length + 1).sum := by
  induction l with
  | nil => cases hx
  | cons y l ih =>
    rw [List.map_cons, List.sum_cons]
    rcases List.mem_cons.1 hx with rfl | hx
    · omega
    · have := ih hx; omega
theorem ones {l : List Int} : (l.map fun _ => 1).sum = l.length := by
  induction l with
  | nil => rfl
  | cons x l ih => rw [List.map_cons, List.sum_cons, ih, List.length_cons]; omega
def niE : Enc Nat := ⟨1, fun n => [.int .i64 (n : Int)], fun _ => rfl, fun _ => rfl⟩
/-- the law's state: the table, the document's list, the bytes, the places and the names -/
structure NS (H1 H : Heap) (p i : Nat) (M Db Da Dh Dm : List Nat) (mv bv av hv : Value) (t m : List (List UInt8 × Nat)) (b : List UInt8) (at_ : List Nat) (had : List (List UInt8)) : Prop where
  tab : TabR H p M t
  rb : OwnRow u8E H bv Db b
  ra : OwnRow niE H av Da at_
  rh : OwnRow tE H hv Dh had
  rm : OwnRow plE H mv Dm m
  dB : ∀ d ∈ Db, H1.next ≤ d ∧ d ≠ p ∧ d ∉ M
  dA : ∀ d ∈ Da, H1.next ≤ d ∧ d ≠ p ∧ d ∉ M ∧ d ∉ Db
  dH : ∀ d ∈ Dh, H1.next ≤ d ∧ d ≠ p ∧ d ∉ M ∧ d ∉ Db ∧ d ∉ Da
  dM : ∀ d ∈ Dm, d ≠ p ∧ d ∉ M ∧ d ∉ Db ∧ d ∉ Da ∧ d ∉ Dh
  hp : H1.next ≤ p
  hM : ∀ d ∈ M, H1.next ≤ d ∧ d < H.next
  hU : Upd H1 H []
  same : SameT t m b.length
  good : ∀ x ∈ t, Good b x
  got : Got b at_ had
  la : at_.length ≤ i
  lb : b.length ≤ 20000 + 300 * i
  lm : m.length ≤ 300 * i
theorem NS.upd {H1 H H' : Heap} {p i : Nat} {M Db Da Dh Dm : List Nat} {mv bv av hv : Value} {t m : List (List UInt8 × Nat)} {b : List UInt8} {at_ : List Nat} {had : List (List UInt8)} (hS : NS H1 H p i M Db Da Dh Dm mv bv av hv t m b at_ had) (hU : Upd H H' []) : NS H1 H' p (i + 1) M Db Da Dh Dm mv bv av hv t m b at_ had :=
  ⟨hS.tab.upd hU (by simp) (by simp), hS.rb.upd hU (by simp), hS.ra.upd hU (by simp), hS.rh.upd hU (by simp), hS.rm.upd hU (by simp), hS.dB, hS.dA, hS.dH, hS.dM, hS.hp, fun d hd => ⟨(hS.hM d hd).1, Nat.lt_of_lt_of_le (hS.hM d hd).2 hU.1⟩, hS.hU.trans hU (by simp), hS.same, hS.good, hS.got, by have := hS.la; omega, by have := hS.lb; omega, by have := hS.lm; omega⟩
theorem acc_row {α : Type} {E : Enc α} {h h0 : Heap} {w : Value} {l : List α} (hr : RowIn E h w l) : accM w h0 = True := by
  obtain ⟨A, st, rfl⟩ := hr.form
  exact accM_s
/-- two rows that grew, each its own -/
structure NX (Hc H : Heap) (Da Dh Da' Dh' : List Nat) (av hv : Value) (at_ : List Nat) (had : List (List UInt8)) : Prop where
  ra : OwnRow niE H av Da' at_
  rh : OwnRow tE H hv Dh' had
  da : ∀ d ∈ Da', d ∈ Da ∨ Hc.next ≤ d
  dh : ∀ d ∈ Dh', d ∈ Dh ∨ Hc.next ≤ d
  dis : ∀ d ∈ Dh', d ∉ Da'
  upd : Upd Hc H (Da ++ Dh)
theorem NX.of {Hc Hf : Heap} {Da Dh Da' Dh' : List Nat} {av hv : Value} {at_ : List Nat} {had : List (List UInt8)} (h1 : OwnRow niE Hf av Da' at_) (h2 : OwnRow tE Hf hv Dh' had) (h3 : ∀ d ∈ Da', d ∈ Da ∨ Hc.next ≤ d) (h4 : ∀ d ∈ Dh', d ∈ Dh ∨ Hc.next ≤ d) (h5 : ∀ d ∈ Dh', d ∉ Da') (h6 : Hc.next ≤ Hf.next) : NX Hc (Hc.unmask (Da ++ Dh) Hf) Da Dh Da' Dh' av hv at_ had :=
  ⟨h1.unmaskW fun d hd => by rcases h3 d hd with h | h; (left; simp [h]); exact .inr h, h2.unmaskW fun d hd => by rcases h4 d hd with h | h; (left; simp [h]); exact .inr h, h3, h4, h5, by rw [next_unmask]; exact h6, fun d hd hn => by rw [get_unmask, if_pos ⟨hd, hn⟩]⟩
theorem docP_len : ∀ (ps : List (List UInt8)) (m : List (List UInt8 × Nat)) (b : List UInt8), (docP m b ps).1.length ≤ m.length + ps.length
  | [], m, b => by rw [docP]; simp
  | p :: ps, m, b => by
    rw [docP]
    cases findD (restD (p :: ps)) m with
    | some a => simp
    | none =>
      have := docP_len ps (m ++ [(restD (p :: ps), b.length)]) (b ++ [UInt8.ofNat p.length] ++ p)
      simp at this ⊢; omega
theorem TabR.lt {h : Heap} {p : Nat} {M : List Nat} {t : List (List UInt8 × Nat)} (hT : TabR h p M t) : ∀ m ∈ M, m < h.next := fun m hm => by
  rcases hT.2 with ⟨_, _, rfl⟩ | ⟨id, cl, l, rfl, _, h5, _⟩
  · cases hm
  · simp at hm; omega
end Ph
