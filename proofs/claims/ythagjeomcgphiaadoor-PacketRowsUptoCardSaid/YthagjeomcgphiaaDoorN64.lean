import Derived.Test.YthagjeomcgphiaaDoorN78
set_option maxRecDepth 100000
set_option linter.unusedSimpArgs false
namespace Ph
open Go Go.Proofs
attribute [local irreducible] Value.cells
attribute [local go_sem ↓] s_move s_assign s_pick s_nil s_bin s_un s_fa s_field s_ext s_ia s_ix s_slice s_conv s_build s_bs s_mf s_alloc s_box s_load s_store s_len s_min s_max s_app s_call q_call q_move q_assign q_pick q_nil q_bin q_un q_fa q_field q_ext q_ia q_ix q_slice q_conv q_build q_mf q_load q_len q_min q_max l_nil l_move l_assign l_pick l_nilc l_bin l_un l_fa l_field l_ext l_ia l_ix l_slice l_conv l_build l_mf l_load l_len l_min l_max l_call put_eq putN_eq o_nil o_plain o_gate v_nil v_plain v_gate vc_skip vc_region vc_seq vc_cond vc_block vc_loop vc_exit vc_ret blk_normal blk_ret blk_exit on_normal on_ret on_exit vc_drawn draw_q s_mk l_bs l_mk l_alloc l_box l_store l_app pl_done pl_take pl_alt pl_stop one_plain one_gate
attribute [local go_sem] onAgg_a onTuple_t onFunc_f c_int c_nil c_sl c_str sl_sl sl_nil sl_str ix_str ix_agg n_nil n_sl n_str app_eq k_nil k_sl len_sl len_str upd_some upd_none ev_tmp ev_const ev_func rd_some gdst_eq otmp_t otmp_c get_put get_alloc next_put next_alloc get_app next_app init_a resV1 resV2 onPtr_ptr onBool_b onInt_i onSlice_s onSome_s onCells_c lett_eq gate_tt gate_tf gate_ff gate_ft gate_dt gate_df also_eq bin un minmax io_none io_some bo_none bo_some partOf List.getElem?_cons_zero List.getElem?_cons_succ List.getElem?_toArray Option.map_some Option.map_none Option.bind_some ne_eq not_true_eq_false not_false_eq_true false_implies true_implies and_true true_and and_self Bool.false_eq_true Nat.zero_add Nat.add_zero List.size_toArray List.length_cons List.length_nil List.map_toArray List.map_cons List.map_nil Array.getD_eq_getD_getElem? Option.getD_some Bool.not_true Bool.not_false Bool.not_eq_true Option.isNone_some Option.isNone_none List.append_toArray List.append_nil List.nil_append List.cons_append decide_true decide_false in_nil in_cons Bool.and_false Bool.and_true Bool.or_false Bool.true_or Bool.false_or get_mask next_mask get_unmask next_unmask ac_move ac_assign ac_pick ac_nil ac_bin ac_un ac_fa ac_field ac_ext ac_ia ac_ix ac_slice ac_build ac_mf ac_call ac_load ac_conv accP_p accS_s accS_n accS_i accS_t fixed_ro fixed_lock fixed_own get_ro next_ro lock_live' lock_cells List.mem_cons List.not_mem_nil or_false false_or or_true true_or and_false false_and IntKind.bits Int.natCast_zero Int.natCast_one size_str data_str list_str mk_str ext_str app_str bytes_str w_byte w_byteu Int.toNat_natCast Int.toNat_zero Int.toNat_one Nat.sub_zero ge_iff_le gt_iff_lt Nat.le_refl Int.le_refl List.drop_zero Int.ofNat_eq_natCast Int.natCast_nonneg Int.sub_zero oc_int oc_bool oc_str oc_ptr oc_sl oc_map oc_func List.set_cons_zero List.set_cons_succ Nat.mul_one List.all_cons List.all_nil Bool.and_self res_nil res_tmp res_cell tup_one tup_two tup_nil fill_nil repl_zero cells_agg List.append_eq List.toList_toArray Nat.zero_mul Nat.one_mul repl_one repl_two onSome_build fill_cons onSome_lit splice_eq cells_int cells_bool cells_str cells_ptr cells_sl cells_map cells_func loadK_n loadK_s load_k storeK_n storeK_s store_k all_arr List.take_zero List.take_succ_cons List.drop_succ_cons List.take_nil List.drop_nil lk_own lk_ro lk_lock lk_lk fixed_lk gate_nt gate_nf gate3_b gate3_u undef Bool.true_and Bool.false_and nx_l nx_r nx_lt
/-- packet.input in a heap: what is left, and the error -/
structure In (h : Heap) (s p o : Nat) (vs : List Value) (q : Own) (l : List UInt8) (e : Int) : Prop where
  st : h.get s = .live (.cells [.slice (some ⟨p, o, none⟩) l.length 1, .int .i64 e] .own)
  dt : h.get p = .live (.cells vs q)
  row : (vs.drop o).take l.length = bc l
  len : o + l.length ≤ vs.length
  ne : p ≠ s
  sn : s < h.next
  pn : p < h.next
  ll : l.length < 9223372036854775807
def Keep (h h' : Heap) (s : Nat) : Prop := h.next ≤ h'.next ∧ ∀ id, id < h.next → id ≠ s → h'.get id = h.get id
theorem Keep.refl {h s} : Keep h h s := ⟨Nat.le_refl _, fun _ _ _ => rfl⟩
theorem Keep.trans {h h' h'' s} (a : Keep h h' s) (b : Keep h' h'' s) : Keep h h'' s := ⟨Nat.le_trans a.1 b.1, fun id hi hn => (b.2 id (Nat.lt_of_lt_of_le hi a.1) hn).trans (a.2 id hi hn)⟩
structure TakeR where
  bytes : List UInt8
  rest : List UInt8
  e : Int
def takeS (l : List UInt8) (e : Int) (n : Nat) : TakeR :=
  if e = 0 then (if n ≤ l.length then ⟨l.take n, l.drop n, 0⟩ else ⟨List.replicate (min n 4) 0, l, 3⟩) else ⟨List.replicate (min n 4) 0, l, e⟩
theorem repl_bc (n : Nat) : repl n [Value.int .u8 0] = bc (List.replicate n 0) := by
  induction n with
  | zero => rfl
  | succ n ih => simp only [repl, ih, List.replicate_succ, bc, List.map_cons]; rfl
theorem min4 {n : Nat} : (if (4 : Int) < (n : Int) then (4 : Int) else (n : Int)) = ((min n 4 : Nat) : Int) := by
  split <;> omega
theorem Keep.put {h s b} : Keep h (h.put s b) s := ⟨Nat.le_refl _, fun id _ hn => by simp only [Heap.put]; rw [if_neg hn]⟩
theorem Keep.alloc {h s b} : Keep h (h.alloc b) s := ⟨by simp only [Heap.alloc]; omega, fun id hi _ => by simp only [Heap.alloc]; rw [if_neg (by omega)]⟩
section
variable {h : Heap} {s p o : Nat} {vs : List Value} {q : Own} {l : List UInt8} {e : Int}
theorem In.put (hI : In h s p o vs q l e) {o' : Nat} {l' : List UInt8} {n : Nat} (hn : n = l'.length) (e' : Int) (hr : (vs.drop o').take l'.length = bc l') (hl : o' + l'.length ≤ vs.length) (hll : l'.length < 9223372036854775807) :
    In (h.put s (.live (.cells [.slice (some ⟨p, o', none⟩) n 1, .int .i64 e'] .own))) s p o' vs q l' e' := by
  subst hn
  exact ⟨by simp [Heap.put], by simp only [Heap.put]; rw [if_neg hI.ne]; exact hI.dt, hr, hl, hI.ne, hI.sn, hI.pn, hll⟩
theorem In.err (hI : In h s p o vs q l e) (e' : Int) : In (h.put s (.live (.cells [.slice (some ⟨p, o, none⟩) l.length 1, .int .i64 e'] .own))) s p o vs q l e' := hI.put rfl e' hI.row hI.len hI.ll
theorem In.alloc (hI : In h s p o vs q l e) (b : Blk) : In (h.alloc b) s p o vs q l e := by
  have h1 := hI.sn
  have h2 := hI.pn
  exact ⟨by simp only [Heap.alloc]; rw [if_neg (by omega)]; exact hI.st, by simp only [Heap.alloc]; rw [if_neg (by omega)]; exact hI.dt, hI.row, hI.len, hI.ne, by simp only [Heap.alloc]; omega, by simp only [Heap.alloc]; omega, hI.ll⟩
theorem zeros_ok (h : Heap) (k : Nat) : SlB (h.alloc (.cells (repl k [Value.int .u8 0]) .own)) (.slice (some ⟨h.next, 0, none⟩) k 1) (List.replicate k 0) :=
  .inr ⟨h.next, 0, repl k [Value.int .u8 0], .own, by simp, by simp [Heap.alloc], by rw [repl_bc]; simp [bc_take], by rw [repl_bc]; simp [bc_len]⟩
theorem In.taken (hI : In h s p o vs q l 0) {n : Nat} (hn : n ≤ l.length) : In (h.put s (.live (.cells [.slice (some ⟨p, o + n, none⟩) ((l.length : Int) - n).toNat 1, .int .i64 0] .own))) s p (o + n) vs q (l.drop n) 0 := by
  have hr := hI.row
  have hl := hI.len
  have hll := hI.ll
  refine hI.put (by simp) 0 ?_ (by simp; omega) (by simp; omega)
  rw [← bc_drop, ← hr, List.drop_take, List.drop_drop, List.length_drop]
theorem In.got (hI : In h s p o vs q l e) {n : Nat} (hn : n ≤ l.length) (h' : Heap) (hd : h'.get p = .live (.cells vs q)) : SlB h' (.slice (some ⟨p, o, none⟩) n 1) (l.take n) := by
  have hl := hI.len
  refine .inr ⟨p, o, vs, q, by simp [hn], hd, ?_, by simp; omega⟩
  rw [List.length_take, Nat.min_eq_left hn, ← bc_take, ← hI.row, List.take_take, Nat.min_eq_left hn]
end
theorem take_ph (h : Heap) {s p o vs q l e} (hI : In h s p o vs q l e) (n : Nat) (hn : n < 9223372036854775807) :
    @CallsH Tryd.prog 64 #[.pointer (some ⟨s, 0, none⟩), .int .i64 n] h ⟨fun v h' => ∃ o', In h' s p o' vs q (takeS l e n).rest (takeS l e n).e ∧ Keep h h' s ∧ SlB h' v (takeS l e n).bytes⟩ := by
  have hst := hI.st
  (refine calls_of_vc [] hm Tryd.func64 rfl (ts := [4]) rfl (by kernel_rfl) (by simp) ?_; simp (config := { dsimp := false }) only [go_sem, reduceIte, Nat.reduceEqDiff, reduceCtorEq, Nat.reduceAdd, Nat.reduceMul, Int.reduceToNat, Int.reduceLE, Int.reduceLT, Int.reduceEq, Int.reduceNe, Nat.reduceLeDiff, Int.reducePow, Nat.reducePow, Nat.reduceLT, Nat.reduceSub, Nat.reduceMod, Nat.reduceDiv, T.ag_25, T.ag_28, T.eb_28, T.es_28, T.ez_28, T.fo_108_0, T.fo_108_1, T.ib_25, T.ib_3, T.ii_28, T.ip_25, T.ip_3, T.s8_28, T.sl_28, T.st_28, T.un_28, init_a, hst, min4])
  refine ⟨fun he => ⟨fun hlt => ⟨by omega, ?_⟩, fun hge => ⟨fun hne => absurd he hne, fun _ => ⟨by omega, by omega, ?_⟩⟩⟩, fun hne => ⟨fun _ => ⟨by omega, ?_⟩, fun he => absurd hne he⟩⟩
  · subst he
    have e1 : takeS l 0 n = ⟨List.replicate (min n 4) 0, l, 3⟩ := by rw [takeS, if_pos rfl, if_neg (by omega)]
    rw [e1]
    exact ⟨o, (hI.err 3).alloc _, Keep.put.trans Keep.alloc, zeros_ok _ _⟩
  · subst he
    have e1 : takeS l 0 n = ⟨l.take n, l.drop n, 0⟩ := by rw [takeS, if_pos rfl, if_pos (by omega)]
    rw [e1]
    have hI' := hI.taken (n := n) (by omega)
    exact ⟨o + n, hI', Keep.put, hI.got (by omega) _ hI'.dt⟩
  · have e1 : takeS l e n = ⟨List.replicate (min n 4) 0, l, e⟩ := by rw [takeS, if_neg hne]
    rw [e1]
    exact ⟨o, hI.alloc _, Keep.alloc, zeros_ok _ _⟩
end Ph
