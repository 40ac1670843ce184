import Derived.Test.YthagjeomcgphiaaDoorM6
import Derived.Test.YthagjeomcgphiaaDoorN5
set_option maxRecDepth 100000
set_option maxHeartbeats 8000000
set_option linter.unusedSimpArgs false
set_option linter.unusedVariables false
namespace Ph
open Go Go.Proofs
attribute [local irreducible] Value.cells
attribute [local go_sem ↓] s_move s_assign s_pick s_nil s_bin s_un s_fa s_field s_ext s_ia s_ix s_slice s_conv s_build s_bs s_mf s_alloc s_box s_load s_store s_len s_min s_max s_app s_call q_call q_move q_assign q_pick q_nil q_bin q_un q_fa q_field q_ext q_ia q_ix q_slice q_conv q_build q_mf q_load q_len q_min q_max l_nil l_move l_assign l_pick l_nilc l_bin l_un l_fa l_field l_ext l_ia l_ix l_slice l_conv l_build l_mf l_load l_len l_min l_max l_call put_eq putN_eq o_nil o_plain o_gate v_nil v_plain v_gate vc_skip vc_region vc_seq vc_cond vc_block vc_loop vc_exit vc_ret blk_normal blk_ret blk_exit on_normal on_ret on_exit vc_drawn draw_q s_mk l_bs l_mk l_alloc l_box l_store l_app pl_done pl_take pl_alt pl_stop one_plain one_gate
attribute [local go_sem] onAgg_a onTuple_t onFunc_f c_int c_nil c_sl c_str sl_sl sl_nil sl_str ix_str ix_agg n_nil n_sl n_str app_eq k_nil k_sl len_sl len_str upd_some upd_none ev_tmp ev_const ev_func rd_some gdst_eq otmp_t otmp_c get_put get_alloc next_put next_alloc get_app next_app init_a resV1 resV2 onPtr_ptr onBool_b onInt_i onSlice_s onSome_s onCells_c lett_eq gate_tt gate_tf gate_ff gate_ft gate_dt gate_df also_eq bin un minmax io_none io_some bo_none bo_some partOf List.getElem?_cons_zero List.getElem?_cons_succ List.getElem?_toArray Option.map_some Option.map_none Option.bind_some ne_eq not_true_eq_false not_false_eq_true false_implies true_implies and_true true_and and_self Bool.false_eq_true Nat.zero_add Nat.add_zero List.size_toArray List.length_cons List.length_nil List.map_toArray List.map_cons List.map_nil Array.getD_eq_getD_getElem? Option.getD_some Bool.not_true Bool.not_false Bool.not_eq_true Option.isNone_some Option.isNone_none List.append_toArray List.append_nil List.nil_append List.cons_append decide_true decide_false in_nil in_cons Bool.and_false Bool.and_true Bool.or_false Bool.true_or Bool.false_or get_mask next_mask get_unmask next_unmask ac_move ac_assign ac_pick ac_nil ac_bin ac_un ac_fa ac_field ac_ext ac_ia ac_ix ac_slice ac_build ac_mf ac_call ac_load ac_conv accP_p accS_s accS_n accS_i accS_t fixed_ro fixed_lock fixed_own get_ro next_ro lock_live' lock_cells List.mem_cons List.not_mem_nil or_false false_or or_true true_or and_false false_and IntKind.bits Int.natCast_zero Int.natCast_one size_str data_str list_str mk_str ext_str app_str bytes_str w_byte w_byteu Int.toNat_natCast Int.toNat_zero Int.toNat_one Nat.sub_zero ge_iff_le gt_iff_lt Nat.le_refl Int.le_refl List.drop_zero Int.ofNat_eq_natCast Int.natCast_nonneg Int.sub_zero oc_int oc_bool oc_str oc_ptr oc_sl oc_map oc_func List.set_cons_zero List.set_cons_succ Nat.mul_one List.all_cons List.all_nil Bool.and_self res_nil res_tmp res_cell tup_one tup_two tup_nil fill_nil repl_zero cells_agg List.append_eq List.toList_toArray Nat.zero_mul Nat.one_mul repl_one repl_two onSome_build fill_cons onSome_lit splice_eq cells_int cells_bool cells_str cells_ptr cells_sl cells_map cells_func loadK_n loadK_s load_k storeK_n storeK_s store_k all_arr List.take_zero List.take_succ_cons List.drop_succ_cons List.take_nil List.drop_nil lk_own lk_ro lk_lock lk_lk fixed_lk gate_nt gate_nf gate3_b gate3_u undef Bool.true_and Bool.false_and nx_l nx_r nx_lt
abbrev HdrT := Int × Int × (List UInt8) × (List UInt8) × (List UInt8) × Int × Int × Int × Bool × (List Int)
def rdH : Rd HdrT := Rd.pair (Rd.int .i64) (Rd.pair (Rd.int .i64) (Rd.pair Rd.str (Rd.pair Rd.str (Rd.pair Rd.str (Rd.pair (Rd.int .i64) (Rd.pair (Rd.int .i64) (Rd.pair (Rd.int .i64) (Rd.pair Rd.bool (Rd.slice (Rd.int .i64))))))))))
theorem hdr_rep {h : Heap} {k v : Int} {d s t : List UInt8} {len num sz : Int} {ph : Bool} {l : List Int} {c : List Value} (hr : rdH.rep h (k, v, d, s, t, len, num, sz, ph, l) c) :
    ∃ lst, c = hdv k v d s t len num sz ph lst ∧ SlX h lst l ∧ ∀ a n m, lst = .slice (some a) n m → a.block < h.next := by
  obtain ⟨_, _, rfl, h1, _, _, rfl, h2, _, _, rfl, h3, _, _, rfl, h4, _, _, rfl, h5, _, _, rfl, h6, _, _, rfl, h7, _, _, rfl, h8, _, _, rfl, h9, lst, rfl, hs⟩ := hr
  obtain rfl : _ = [Value.int .i64 k] := h1
  obtain rfl : _ = [Value.int .i64 v] := h2
  obtain rfl : _ = [Value.string (str d)] := h3
  obtain rfl : _ = [Value.string (str s)] := h4
  obtain rfl : _ = [Value.string (str t)] := h5
  obtain rfl : _ = [Value.int .i64 len] := h6
  obtain rfl : _ = [Value.int .i64 num] := h7
  obtain rfl : _ = [Value.int .i64 sz] := h8
  obtain rfl : _ = [Value.bool ph] := h9
  refine ⟨lst, rfl, ?_, fun a n m e => ?_⟩
  · rcases hs with hs | ⟨i, cells, a1, a2, a3, a4, a5⟩
    · exact .inl hs
    · have hc := cells_ints a4 a5
      have a4' : cells.length = l.length := by rw [a4]; exact Nat.mul_one _
      exact .inr ⟨i, 0, cells, .ro, a1, a3, by rw [List.drop_zero, List.take_of_length_le (by omega), hc]; rfl, by omega⟩
  · rcases hs with ⟨x, _⟩ | ⟨i, cells, a1, a2, _⟩
    · rw [x] at e; cases e
    · rw [a1] at e; cases e; exact a2
theorem sum_one (l : List Int) : (l.map fun _ => 1).sum = l.length := by induction l with | nil => rfl | cons x l ih => simp [ih]; omega
def RestOk (k : Int) (rest : List UInt8) : Prop := 3 ≤ k → k ≠ 4 → rest = []
theorem put_short {k v : Int} {d s t : List UInt8} {len num sz : Int} {ph : Bool} {l : List Int} (hr : rightP k v d s t len num sz ph l) : (putS k v d s t len num sz ph l).length ≤ 10000 := by
  obtain ⟨⟨hd, hs, ht5, hv, hlen, hnum, hl16, hlw⟩, hcase⟩ := hr
  have hfl : ∀ m : List Int, (m.flatMap fun x => lowS x.toNat 4).length = 4 * m.length := fun m => by
    induction m with
    | nil => rfl
    | cons x m ih => rw [List.flatMap_cons, List.length_append, lowS_len, ih, List.length_cons]; omega
  have hvz := vsz_ok t.length
  have hsz : sz.toNat ≤ 4 := by rcases hcase with ⟨_, _, h, _⟩ | ⟨_, _, h, _⟩ | ⟨_, _, h, _⟩ | ⟨_, _, h, _⟩ <;> omega
  have hv8 : vsz t.length ≤ 8 := by rcases hvz with e | e | e | e <;> omega
  unfold putS nmS vtextS
  repeat' split
  all_goals simp only [List.length_cons, List.length_append, lowS_len, vputS_len, hfl, List.length_nil]
  all_goals omega
theorem SlB.pre {H : Heap} {p o : Nat} {vs : List Value} {q : Own} {l : List UInt8} {n : Nat} (hn : n ≤ l.length) (h2 : H.get p = .live (.cells vs q)) (h3 : (vs.drop o).take l.length = bc l) (h4 : o + l.length ≤ vs.length) : SlB H (.slice (some ⟨p, o, none⟩) n 1) (l.take n) := by
  refine .inr ⟨p, o, vs, q, by rw [List.length_take, Nat.min_eq_left hn], h2, ?_, by rw [List.length_take, Nat.min_eq_left hn]; omega⟩
  have := congrArg (List.take n) h3
  rw [List.take_take, Nat.min_eq_left hn, bc_take] at this
  rw [List.length_take, Nat.min_eq_left hn]; exact this
theorem two_new {h H : Heap} {B : Blk} {a : List Value} {cs : List UInt8} {n : Nat} (hn : n = cs.length) (hK : Kept h H) :
    OwnB (appHeap (appHeap (H.alloc B) ⟨H.next, 0, none⟩ a) ⟨H.next + 1, 0, none⟩ (bc cs)) (H.next + 1 + 1) (.slice (some ⟨H.next + 1 + 1, 0, none⟩) n 1) cs ∧ Kept h (appHeap (appHeap (H.alloc B) ⟨H.next, 0, none⟩ a) ⟨H.next + 1, 0, none⟩ (bc cs)) := by
  have := hK.1
  refine ⟨⟨by rw [hn], by simp [appHeap, Heap.alloc], by rw [get_app, next_app, next_alloc, if_pos rfl]⟩, ⟨by simp [appHeap, Heap.alloc]; omega, fun id hid => ?_⟩⟩
  rw [get_app, next_app, next_alloc, if_neg (by omega), if_neg (by show ¬ id = H.next + 1; omega), get_app, next_alloc, if_neg (by omega), if_neg (by show ¬ id = H.next; omega), get_alloc, if_neg (by omega)]
  exact hK.2 id hid
theorem get_new (H : Heap) (l : List UInt8) (own : Int) (v : Value) (hs : SlB H v l) (hll : l.length < 9223372036854775807) (hlt : ∀ a n m, v = .slice (some a) n m → a.block < H.next)
    (K : Value → Heap → Prop) (hK : ∀ lst1 H2, SlI H.next H2 lst1 (getP l own).list → Kept H H2 → (∀ i, H2.next ≤ i → H2.get i = .free) → K (.tuple #[.agg ((getP l own).hd ++ [lst1]).toArray, .int .i64 (getP l own).at_, .int .i64 (getP l own).en, .int .i64 (getP l own).e]) H2) : @CallsH Tryd.prog 19 #[v, .int .i64 own] H ⟨K⟩ := by
  have hsB : SlB (H.mask []) v l := by
    rcases hs with x | ⟨p, o, vs, q, e1, e2, e3, e4⟩
    · exact .inl x
    · exact .inr ⟨p, o, vs, q.lk, e1, by rw [get_mask, if_neg (by simp), e2, lock_live', lock_cells], e3, e4⟩
  refine CallsH.keep [] (Get_ph (H.mask []) l own v hsB hll hlt) fun w h' ⟨lst1, hw, hs⟩ hn hfr => ?_
  subst hw
  refine hK lst1 _ ?_ ⟨hn, fun i hi => by rw [get_unmask, if_pos ⟨hi, by simp⟩]⟩ fun i hi => ?_
  · rcases hs with hs | ⟨i, q, a1, a2, a3⟩
    · exact .inl hs
    · exact .inr ⟨i, q, a1, a2, by rw [get_unmask, if_neg (fun x => by have := x.1; have : H.next ≤ i := a1; omega)]; exact a3⟩
  · have hi : h'.next ≤ i := hi
    rw [get_unmask, if_neg (fun x => by have := x.1; omega)]; exact hfr i hi
theorem back_ok {k v : Int} {d s t : List UInt8} {len num sz : Int} {ph : Bool} {l : List Int} {bl rl : Nat} (hr : rightP k v d s t len num sz ph l) (hn : ¬ (k < 3 ∧ sz + rl < len)) :
    (backS k v d s t len sz l bl rl).hd = hd9 k v d s t len ∧ (backS k v d s t len sz l bl rl).list = l ∧ (backS k v d s t len sz l bl rl).e = 0 ∧
    (k < 3 → (backS k v d s t len sz l bl rl).at_ = bl - sz ∧ (backS k v d s t len sz l bl rl).en = bl - sz + len) ∧
    (k = 4 → (backS k v d s t len sz l bl rl).at_ = bl - sz ∧ (backS k v d s t len sz l bl rl).en = bl + rl) ∧
    (¬ k < 3 → k ≠ 4 → (backS k v d s t len sz l bl rl).at_ = bl ∧ (backS k v d s t len sz l bl rl).en = bl) := by
  obtain ⟨_, hcase⟩ := hr
  unfold backS
  by_cases h3 : k < 3
  · have hl : l = [] := by rcases hcase with ⟨_, h, _⟩ | ⟨e, _⟩ | ⟨e, _⟩ | ⟨e, _⟩ <;> first | exact h | omega
    rw [if_pos h3, if_neg (fun x => hn ⟨h3, x⟩)]
    exact ⟨rfl, hl.symm, rfl, fun _ => ⟨rfl, rfl⟩, fun x => by omega, fun x => absurd h3 x⟩
  · rw [if_neg h3]
    by_cases h4 : k = 4
    · have hl : l = [] := by rcases hcase with ⟨_, h, _⟩ | ⟨e, _⟩ | ⟨e, h, _⟩ | ⟨e, _⟩ <;> first | exact h | omega
      rw [if_pos h4]
      exact ⟨by rw [h4], hl.symm, rfl, fun x => absurd x h3, fun _ => ⟨rfl, rfl⟩, fun _ x => absurd h4 x⟩
    · rw [if_neg h4]
      exact ⟨rfl, rfl, rfl, fun x => absurd x h3, fun x => absurd x h4, fun _ _ => ⟨rfl, rfl⟩⟩
theorem PacketBack_ph (h : Heap) (x0 : HdrT) (c0 : List Value) (hr0 : rdH.rep h x0 c0) (l1 : (List Int)) (s1 : Value) (hs1 : SlR (Rd.int .u8) h s1 l1) (wf0 : ((Lit.int .i64 x0.1).wf = true ∧ (Lit.int .i64 x0.2.1).wf = true ∧ x0.2.2.1.length ≤ maxLen ∧ x0.2.2.2.1.length ≤ maxLen ∧ x0.2.2.2.2.1.length ≤ maxLen ∧ (Lit.int .i64 x0.2.2.2.2.2.1).wf = true ∧ (Lit.int .i64 x0.2.2.2.2.2.2.1).wf = true ∧ (Lit.int .i64 x0.2.2.2.2.2.2.2.1).wf = true ∧ True ∧ (x0.2.2.2.2.2.2.2.2.2.length ≤ maxLen ∧ ∀ x ∈ x0.2.2.2.2.2.2.2.2.2, (Lit.int .i64 x).wf = true))) (wf1 : (l1.length ≤ maxLen ∧ ∀ x ∈ l1, (Lit.int .u8 x).wf = true))
    (hb : (1 + (1 + ((x0.2.2.1.length + 1) + ((x0.2.2.2.1.length + 1) + ((x0.2.2.2.2.1.length + 1) + (1 + (1 + (1 + (1 + ((x0.2.2.2.2.2.2.2.2.2.map fun x => 1).sum + 1)))))))))) + ((l1.map fun x => 1).sum + 1) ≤ 1048576) :
    @CallsH Tryd.prog 6 #[.agg c0.toArray, s1] h ⟨fun u _ => u = .bool true⟩ := by
  obtain ⟨k, v, d, s, t, len, num, sz, ph, l⟩ := x0
  simp only [sum_one] at hb
  obtain ⟨lst, rfl, hs, hlt⟩ := hdr_rep hr0
  have hB := hs1.toB wf1.2
  have hlt1 : ∀ a n m, s1 = .slice (some a) n m → a.block < h.next := fun a n m e => by
    rcases hs1 with ⟨h1, _⟩ | ⟨i, cells, h1, h2, _⟩
    · rw [h1] at e; cases e
    · rw [h1] at e; cases e; exact h2
  have hl1 : (l1.map fun x => UInt8.ofNat x.toNat).length ≤ 1048576 := by rw [List.length_map]; omega
  generalize (l1.map fun x => UInt8.ofNat x.toNat) = rs at hB hl1
  have hll : l.length ≤ 1048576 := by omega
  have o1 := hs.one
  have c1 := hs.cells
  refine calls_of_codeR (rs := [.tmp 4]) Tryd.func6 rfl rfl (by simp) ?_
  refine CodeH.cut3 [] hm (fun r H => rightP k v d s t len num sz ph l ∧ ∃ b2 j5, r 1 = s1 ∧ r 2 = .pointer (some ⟨b2, 0, none⟩) ∧ H.get b2 = .live (.cells (hdv k v d s t len num sz ph lst) .own) ∧ h.next ≤ b2 ∧ b2 < H.next ∧ b2 < j5 ∧
    OwnB H j5 (r 5) (putS k v d s t len num sz ph l) ∧ r 6 = .int .i64 0 ∧ Kept h H) (by kernel_rfl) ?_ ?_
  · simp (config := { dsimp := false, maxSteps := 10000000 }) (disch := omega) only [go_sem, reduceIte, Nat.reduceEqDiff, reduceCtorEq, Nat.reduceAdd, Nat.reduceMul, Int.reduceToNat, Int.reduceLE, Int.reduceLT, Int.reduceEq, Int.reduceNe, Nat.reduceLeDiff, Int.reducePow, Nat.reducePow, Nat.reduceLT, Nat.reduceSub, Nat.reduceMod, Nat.reduceDiv, slot_neg, slot_pos, T.ag_24, T.ag_3, T.ag_31, T.ag_4, T.ag_9, T.eb_28, T.es_28, T.ez_28, T.fo_24_0, T.fo_24_2, T.fo_24_5, T.fo_24_6, T.fo_24_7, T.fo_24_8, T.gf_13, T.gf_14, T.gf_15, T.gf_19, T.gf_20, T.gf_21, T.ib_25, T.ib_3, T.ii_28, T.ii_9, T.ip_25, T.ip_3, T.s8_28, T.s8_9, T.sl_28, T.sl_9, T.st_28, T.st_9, T.un_28, T.un_9, T.zo_24, T.zo_31, init_a, o1, c1, hdv]
    have hkb : Kept h (h.alloc (.cells [.int .i64 k, .int .i64 v, .string (str d), .string (str s), .string (str t), .int .i64 len, .int .i64 num, .int .i64 sz, .bool ph, lst] .own)) := Kept.alloc _ _
    refine (to_ph _ k v d s t len num sz ph lst l (hs.kept hkb hlt) (fun a n m e => Nat.lt_of_lt_of_le (hlt a n m e) hkb.1) hll).mono fun w H1 ⟨lst2, i2, hw, hk1, he2, hi2, hi2', hg2⟩ => ?_
    subst hw
    have hs2 : SlX H1 lst2 l := .inr ⟨i2, 0, _, _, he2, hg2, by rw [List.drop_zero, List.take_of_length_le (by simp [ic])], by simp [ic]⟩
    simp (config := { dsimp := false, maxSteps := 10000000 }) (disch := omega) only [go_sem, reduceIte, Nat.reduceEqDiff, reduceCtorEq, Nat.reduceAdd, Nat.reduceMul, Int.reduceToNat, Int.reduceLE, Int.reduceLT, Int.reduceEq, Int.reduceNe, Nat.reduceLeDiff, Int.reducePow, Nat.reducePow, Nat.reduceLT, Nat.reduceSub, Nat.reduceMod, Nat.reduceDiv, slot_neg, slot_pos, T.ag_24, T.ag_3, T.ag_31, T.ag_4, T.ag_9, T.eb_28, T.es_28, T.ez_28, T.fo_24_0, T.fo_24_2, T.fo_24_5, T.fo_24_6, T.fo_24_7, T.fo_24_8, T.gf_13, T.gf_14, T.gf_15, T.gf_19, T.gf_20, T.gf_21, T.ib_25, T.ib_3, T.ii_28, T.ii_9, T.ip_25, T.ip_3, T.s8_28, T.s8_9, T.sl_28, T.sl_9, T.st_28, T.st_9, T.un_28, T.un_9, T.zo_24, T.zo_31, hdv]
    refine (Put_ph H1 k v d s t len num sz ph lst2 l hs2 (fun a n m e => by rw [he2] at e; cases e; exact hi2') (by omega)).mono fun w H2 ⟨hk2, hres⟩ => ?_
    have hK : Kept h H2 := (hkb.trans hk1).trans hk2
    have hbox : H2.get h.next = .live (.cells [.int .i64 k, .int .i64 v, .string (str d), .string (str s), .string (str t), .int .i64 len, .int .i64 num, .int .i64 sz, .bool ph, lst] .own) := by
      have h1n := hk1.1
      rw [next_alloc] at h1n
      rw [hk2.2 h.next (by omega), hk1.2 h.next (by rw [next_alloc]; omega), get_alloc, if_pos rfl]
    have hn2 : h.next < H2.next := by have := hk1.1; have := hk2.1; rw [next_alloc] at *; omega
    by_cases hr : rightP k v d s t len num sz ph l
    · rw [if_pos hr] at hres
      obtain ⟨v1, j, hw, hO, hj⟩ := hres
      subst hw
      simp (config := { dsimp := false, maxSteps := 10000000 }) (disch := omega) only [go_sem, reduceIte, Nat.reduceEqDiff, reduceCtorEq, Nat.reduceAdd, Nat.reduceMul, Int.reduceToNat, Int.reduceLE, Int.reduceLT, Int.reduceEq, Int.reduceNe, Nat.reduceLeDiff, Int.reducePow, Nat.reducePow, Nat.reduceLT, Nat.reduceSub, Nat.reduceMod, Nat.reduceDiv, slot_neg, slot_pos, T.ag_24, T.ag_3, T.ag_31, T.ag_4, T.ag_9, T.eb_28, T.es_28, T.ez_28, T.fo_24_0, T.fo_24_2, T.fo_24_5, T.fo_24_6, T.fo_24_7, T.fo_24_8, T.gf_13, T.gf_14, T.gf_15, T.gf_19, T.gf_20, T.gf_21, T.ib_25, T.ib_3, T.ii_28, T.ii_9, T.ip_25, T.ip_3, T.s8_28, T.s8_9, T.sl_28, T.sl_9, T.st_28, T.st_9, T.un_28, T.un_9, T.zo_24, T.zo_31]
      refine CallsH.pure _ rfl (heads_ph _) ?_
      simp (config := { dsimp := false, maxSteps := 10000000 }) (disch := omega) only [go_sem, reduceIte, Nat.reduceEqDiff, reduceCtorEq, Nat.reduceAdd, Nat.reduceMul, Int.reduceToNat, Int.reduceLE, Int.reduceLT, Int.reduceEq, Int.reduceNe, Nat.reduceLeDiff, Int.reducePow, Nat.reducePow, Nat.reduceLT, Nat.reduceSub, Nat.reduceMod, Nat.reduceDiv, slot_neg, slot_pos, T.ag_24, T.ag_3, T.ag_31, T.ag_4, T.ag_9, T.eb_28, T.es_28, T.ez_28, T.fo_24_0, T.fo_24_2, T.fo_24_5, T.fo_24_6, T.fo_24_7, T.fo_24_8, T.gf_13, T.gf_14, T.gf_15, T.gf_19, T.gf_20, T.gf_21, T.ib_25, T.ib_3, T.ii_28, T.ii_9, T.ip_25, T.ip_3, T.s8_28, T.s8_9, T.sl_28, T.sl_9, T.st_28, T.st_9, T.un_28, T.un_9, T.zo_24, T.zo_31]
      refine ⟨hr, h.next, j, rfl, hbox, by omega, hn2, ?_, hO, hK⟩
      have := hk1.1
      rw [next_alloc] at this
      omega
    · rw [if_neg hr] at hres
      subst hres
      simp (config := { dsimp := false, maxSteps := 10000000 }) (disch := omega) only [go_sem, reduceIte, Nat.reduceEqDiff, reduceCtorEq, Nat.reduceAdd, Nat.reduceMul, Int.reduceToNat, Int.reduceLE, Int.reduceLT, Int.reduceEq, Int.reduceNe, Nat.reduceLeDiff, Int.reducePow, Nat.reducePow, Nat.reduceLT, Nat.reduceSub, Nat.reduceMod, Nat.reduceDiv, slot_neg, slot_pos, T.ag_24, T.ag_3, T.ag_31, T.ag_4, T.ag_9, T.eb_28, T.es_28, T.ez_28, T.fo_24_0, T.fo_24_2, T.fo_24_5, T.fo_24_6, T.fo_24_7, T.fo_24_8, T.gf_13, T.gf_14, T.gf_15, T.gf_19, T.gf_20, T.gf_21, T.ib_25, T.ib_3, T.ii_28, T.ii_9, T.ip_25, T.ip_3, T.s8_28, T.s8_9, T.sl_28, T.sl_9, T.st_28, T.st_9, T.un_28, T.un_9, T.zo_24, T.zo_31]
      refine CallsH.pure _ rfl (heads_ph _) ?_
      simp (config := { dsimp := false, maxSteps := 10000000 }) (disch := omega) only [go_sem, reduceIte, Nat.reduceEqDiff, reduceCtorEq, Nat.reduceAdd, Nat.reduceMul, Int.reduceToNat, Int.reduceLE, Int.reduceLT, Int.reduceEq, Int.reduceNe, Nat.reduceLeDiff, Int.reducePow, Nat.reducePow, Nat.reduceLT, Nat.reduceSub, Nat.reduceMod, Nat.reduceDiv, slot_neg, slot_pos, T.ag_24, T.ag_3, T.ag_31, T.ag_4, T.ag_9, T.eb_28, T.es_28, T.ez_28, T.fo_24_0, T.fo_24_2, T.fo_24_5, T.fo_24_6, T.fo_24_7, T.fo_24_8, T.gf_13, T.gf_14, T.gf_15, T.gf_19, T.gf_20, T.gf_21, T.ib_25, T.ib_3, T.ii_28, T.ii_9, T.ip_25, T.ip_3, T.s8_28, T.s8_9, T.sl_28, T.sl_9, T.st_28, T.st_9, T.un_28, T.un_9, T.zo_24, T.zo_31]
      refine CallsH.pure _ rfl (heads_ph _) ?_
      simp (config := { dsimp := false, maxSteps := 10000000 }) (disch := omega) only [go_sem, reduceIte, Nat.reduceEqDiff, reduceCtorEq, Nat.reduceAdd, Nat.reduceMul, Int.reduceToNat, Int.reduceLE, Int.reduceLT, Int.reduceEq, Int.reduceNe, Nat.reduceLeDiff, Int.reducePow, Nat.reducePow, Nat.reduceLT, Nat.reduceSub, Nat.reduceMod, Nat.reduceDiv, slot_neg, slot_pos, T.ag_24, T.ag_3, T.ag_31, T.ag_4, T.ag_9, T.eb_28, T.es_28, T.ez_28, T.fo_24_0, T.fo_24_2, T.fo_24_5, T.fo_24_6, T.fo_24_7, T.fo_24_8, T.gf_13, T.gf_14, T.gf_15, T.gf_19, T.gf_20, T.gf_21, T.ib_25, T.ib_3, T.ii_28, T.ii_9, T.ip_25, T.ip_3, T.s8_28, T.s8_9, T.sl_28, T.sl_9, T.st_28, T.st_9, T.un_28, T.un_9, T.zo_24, T.zo_31]
  rintro r H ⟨hr, b2, j5, r1, r2, g2, m2, n2, n25, hO, r6, hK⟩
  have hBH : SlB H s1 rs := by
    rcases hB with x | ⟨p, o, vs, q, e1, e2, e3, e4⟩
    · exact .inl x
    · exact .inr ⟨p, o, vs, q, e1, (hK.2 _ (hlt1 _ _ _ e1)).trans e2, e3, e4⟩
  refine CodeH.cut2 [] hm (fun r' H' => H' = H ∧ r' 2 = .pointer (some ⟨b2, 0, none⟩) ∧ r' 5 = r 5 ∧ ∃ rest, RestOk k rest ∧ rest.length ≤ 2000 ∧ SlB H (r' 1) rest ∧ (∀ a n m, r' 1 = .slice (some a) n m → a.block < h.next)) (by kernel_rfl) ?_ ?_
  · have hmin : (if (2000 : Int) < (rs.length : Int) then (2000 : Int) else (rs.length : Int)) = ((min rs.length 2000 : Nat) : Int) := by split <;> omega
    by_cases hk : 3 ≤ k
    · have hk' : (3 ≤ k) = True := eq_true hk
      by_cases hk4 : k = 4
      · have hk4' : (k = 4) = True := eq_true hk4
        rcases hBH with ⟨rfl, rfl⟩ | ⟨p, o, vs, q, rfl, e2, e3, e4⟩
        · simp (config := { dsimp := false, maxSteps := 10000000 }) (disch := omega) only [go_sem, reduceIte, Nat.reduceEqDiff, reduceCtorEq, Nat.reduceAdd, Nat.reduceMul, Int.reduceToNat, Int.reduceLE, Int.reduceLT, Int.reduceEq, Int.reduceNe, Nat.reduceLeDiff, Int.reducePow, Nat.reducePow, Nat.reduceLT, Nat.reduceSub, Nat.reduceMod, Nat.reduceDiv, slot_neg, slot_pos, T.ag_24, T.ag_3, T.ag_31, T.ag_4, T.ag_9, T.eb_28, T.es_28, T.ez_28, T.fo_24_0, T.fo_24_2, T.fo_24_5, T.fo_24_6, T.fo_24_7, T.fo_24_8, T.gf_13, T.gf_14, T.gf_15, T.gf_19, T.gf_20, T.gf_21, T.ib_25, T.ib_3, T.ii_28, T.ii_9, T.ip_25, T.ip_3, T.s8_28, T.s8_9, T.sl_28, T.sl_9, T.st_28, T.st_9, T.un_28, T.un_9, T.zo_24, T.zo_31, r1, r2, g2, hdv, hk', hk4']
          exact ⟨[], fun _ x => absurd hk4 x, by simp, .inl ⟨rfl, rfl⟩, fun a n m e => by cases e⟩
        · simp (config := { dsimp := false, maxSteps := 10000000 }) (disch := omega) only [go_sem, reduceIte, Nat.reduceEqDiff, reduceCtorEq, Nat.reduceAdd, Nat.reduceMul, Int.reduceToNat, Int.reduceLE, Int.reduceLT, Int.reduceEq, Int.reduceNe, Nat.reduceLeDiff, Int.reducePow, Nat.reducePow, Nat.reduceLT, Nat.reduceSub, Nat.reduceMod, Nat.reduceDiv, slot_neg, slot_pos, T.ag_24, T.ag_3, T.ag_31, T.ag_4, T.ag_9, T.eb_28, T.es_28, T.ez_28, T.fo_24_0, T.fo_24_2, T.fo_24_5, T.fo_24_6, T.fo_24_7, T.fo_24_8, T.gf_13, T.gf_14, T.gf_15, T.gf_19, T.gf_20, T.gf_21, T.ib_25, T.ib_3, T.ii_28, T.ii_9, T.ip_25, T.ip_3, T.s8_28, T.s8_9, T.sl_28, T.sl_9, T.st_28, T.st_9, T.un_28, T.un_9, T.zo_24, T.zo_31, r1, r2, g2, hdv, hk', hk4', hmin]
          refine ⟨by omega, rs.take (min rs.length 2000), fun _ x => absurd hk4 x, by simp; omega, SlB.pre (q := q) (by omega) e2 e3 e4, fun a n m e => by cases e; exact hlt1 _ _ _ rfl⟩
      · have hk4' : (k = 4) = False := eq_false hk4
        rcases hBH with ⟨rfl, rfl⟩ | ⟨p, o, vs, q, rfl, e2, e3, e4⟩
        · simp (config := { dsimp := false, maxSteps := 10000000 }) (disch := omega) only [go_sem, reduceIte, Nat.reduceEqDiff, reduceCtorEq, Nat.reduceAdd, Nat.reduceMul, Int.reduceToNat, Int.reduceLE, Int.reduceLT, Int.reduceEq, Int.reduceNe, Nat.reduceLeDiff, Int.reducePow, Nat.reducePow, Nat.reduceLT, Nat.reduceSub, Nat.reduceMod, Nat.reduceDiv, slot_neg, slot_pos, T.ag_24, T.ag_3, T.ag_31, T.ag_4, T.ag_9, T.eb_28, T.es_28, T.ez_28, T.fo_24_0, T.fo_24_2, T.fo_24_5, T.fo_24_6, T.fo_24_7, T.fo_24_8, T.gf_13, T.gf_14, T.gf_15, T.gf_19, T.gf_20, T.gf_21, T.ib_25, T.ib_3, T.ii_28, T.ii_9, T.ip_25, T.ip_3, T.s8_28, T.s8_9, T.sl_28, T.sl_9, T.st_28, T.st_9, T.un_28, T.un_9, T.zo_24, T.zo_31, r1, r2, g2, hdv, hk', hk4']
          exact ⟨[], fun _ _ => rfl, by simp, .inl ⟨rfl, rfl⟩, fun a n m e => by cases e⟩
        · simp (config := { dsimp := false, maxSteps := 10000000 }) (disch := omega) only [go_sem, reduceIte, Nat.reduceEqDiff, reduceCtorEq, Nat.reduceAdd, Nat.reduceMul, Int.reduceToNat, Int.reduceLE, Int.reduceLT, Int.reduceEq, Int.reduceNe, Nat.reduceLeDiff, Int.reducePow, Nat.reducePow, Nat.reduceLT, Nat.reduceSub, Nat.reduceMod, Nat.reduceDiv, slot_neg, slot_pos, T.ag_24, T.ag_3, T.ag_31, T.ag_4, T.ag_9, T.eb_28, T.es_28, T.ez_28, T.fo_24_0, T.fo_24_2, T.fo_24_5, T.fo_24_6, T.fo_24_7, T.fo_24_8, T.gf_13, T.gf_14, T.gf_15, T.gf_19, T.gf_20, T.gf_21, T.ib_25, T.ib_3, T.ii_28, T.ii_9, T.ip_25, T.ip_3, T.s8_28, T.s8_9, T.sl_28, T.sl_9, T.st_28, T.st_9, T.un_28, T.un_9, T.zo_24, T.zo_31, r1, r2, g2, hdv, hk', hk4', hmin]
          exact ⟨by omega, [], fun _ _ => rfl, by simp, .inl ⟨rfl, rfl⟩, fun a n m e => by cases e⟩
    · have hk' : (3 ≤ k) = False := eq_false hk
      rcases hBH with ⟨rfl, rfl⟩ | ⟨p, o, vs, q, rfl, e2, e3, e4⟩
      · simp (config := { dsimp := false, maxSteps := 10000000 }) (disch := omega) only [go_sem, reduceIte, Nat.reduceEqDiff, reduceCtorEq, Nat.reduceAdd, Nat.reduceMul, Int.reduceToNat, Int.reduceLE, Int.reduceLT, Int.reduceEq, Int.reduceNe, Nat.reduceLeDiff, Int.reducePow, Nat.reducePow, Nat.reduceLT, Nat.reduceSub, Nat.reduceMod, Nat.reduceDiv, slot_neg, slot_pos, T.ag_24, T.ag_3, T.ag_31, T.ag_4, T.ag_9, T.eb_28, T.es_28, T.ez_28, T.fo_24_0, T.fo_24_2, T.fo_24_5, T.fo_24_6, T.fo_24_7, T.fo_24_8, T.gf_13, T.gf_14, T.gf_15, T.gf_19, T.gf_20, T.gf_21, T.ib_25, T.ib_3, T.ii_28, T.ii_9, T.ip_25, T.ip_3, T.s8_28, T.s8_9, T.sl_28, T.sl_9, T.st_28, T.st_9, T.un_28, T.un_9, T.zo_24, T.zo_31, r1, r2, g2, hdv, hk']
        exact ⟨[], fun x => absurd x hk, by simp, .inl ⟨rfl, rfl⟩, fun a n m e => by cases e⟩
      · simp (config := { dsimp := false, maxSteps := 10000000 }) (disch := omega) only [go_sem, reduceIte, Nat.reduceEqDiff, reduceCtorEq, Nat.reduceAdd, Nat.reduceMul, Int.reduceToNat, Int.reduceLE, Int.reduceLT, Int.reduceEq, Int.reduceNe, Nat.reduceLeDiff, Int.reducePow, Nat.reducePow, Nat.reduceLT, Nat.reduceSub, Nat.reduceMod, Nat.reduceDiv, slot_neg, slot_pos, T.ag_24, T.ag_3, T.ag_31, T.ag_4, T.ag_9, T.eb_28, T.es_28, T.ez_28, T.fo_24_0, T.fo_24_2, T.fo_24_5, T.fo_24_6, T.fo_24_7, T.fo_24_8, T.gf_13, T.gf_14, T.gf_15, T.gf_19, T.gf_20, T.gf_21, T.ib_25, T.ib_3, T.ii_28, T.ii_9, T.ip_25, T.ip_3, T.s8_28, T.s8_9, T.sl_28, T.sl_9, T.st_28, T.st_9, T.un_28, T.un_9, T.zo_24, T.zo_31, r1, r2, g2, hdv, hk', hmin]
        refine ⟨by omega, rs.take (min rs.length 2000), fun x => absurd x hk, by simp; omega, SlB.pre (q := q) (by omega) e2 e3 e4, fun a n m e => by cases e; exact hlt1 _ _ _ rfl⟩
  rintro r' H' ⟨rfl, r2', r5', rest, hrest, hrl, hR, hRlt⟩
  clear r1 r2
  obtain ⟨hv5, hj5, hg5⟩ := hO
  have hP : (putS k v d s t len num sz ph l).length ≤ 10000 := by
    have := hr.1
    exact put_short hr
  generalize hbs : putS k v d s t len num sz ph l = bs at hv5 hg5 hP
  rw [hv5] at r5'
  refine CodeH.cut1 [] hm (fun r2 H2 => ∃ j7 A c, r2 1 = .slice A rest.length c ∧ r2 2 = .pointer (some ⟨b2, 0, none⟩) ∧ H2.get b2 = .live (.cells (hdv k v d s t len num sz ph lst) .own) ∧ b2 < j7 ∧ r2 5 = .slice (some ⟨j5, 0, none⟩) bs.length 1 ∧ OwnB H2 j7 (r2 7) (bs ++ rest) ∧ Kept h H2) (by kernel_rfl) ?_ ?_
  · have ht5 : List.take bs.length (bc bs) = bc bs := List.take_of_length_le (by rw [bc_len]; exact Nat.le_refl _)
    have hjk : (j5 = H'.next) = False := eq_false (by omega)
    rcases hR with ⟨e1, rfl⟩ | ⟨p, o, vs, q, e1, e2, e3, e4⟩
    · simp (config := { dsimp := false, maxSteps := 10000000 }) (disch := omega) only [go_sem, reduceIte, Nat.reduceEqDiff, reduceCtorEq, Nat.reduceAdd, Nat.reduceMul, Int.reduceToNat, Int.reduceLE, Int.reduceLT, Int.reduceEq, Int.reduceNe, Nat.reduceLeDiff, Int.reducePow, Nat.reducePow, Nat.reduceLT, Nat.reduceSub, Nat.reduceMod, Nat.reduceDiv, slot_neg, slot_pos, T.ag_24, T.ag_3, T.ag_31, T.ag_4, T.ag_9, T.eb_28, T.es_28, T.ez_28, T.fo_24_0, T.fo_24_2, T.fo_24_5, T.fo_24_6, T.fo_24_7, T.fo_24_8, T.gf_13, T.gf_14, T.gf_15, T.gf_19, T.gf_20, T.gf_21, T.ib_25, T.ib_3, T.ii_28, T.ii_9, T.ip_25, T.ip_3, T.s8_28, T.s8_9, T.sl_28, T.sl_9, T.st_28, T.st_9, T.un_28, T.un_9, T.zo_24, T.zo_31, e1, r2', r5', hg5, ht5, bc_len, bc_one]
      obtain ⟨t1, t2⟩ := two_new (B := .cells [] .own) (a := bc bs) (cs := bs) rfl hK
      exact ⟨⟨by omega, by omega⟩, ⟨by omega, by omega⟩, H'.next + 1 + 1, _, _, rfl, g2, by omega, t1, t2⟩
    · have hp := hRlt _ _ _ e1
      have hpk := hK.1
      simp only at hp
      simp (config := { dsimp := false, maxSteps := 10000000 }) (disch := omega) only [go_sem, reduceIte, Nat.reduceEqDiff, reduceCtorEq, Nat.reduceAdd, Nat.reduceMul, Int.reduceToNat, Int.reduceLE, Int.reduceLT, Int.reduceEq, Int.reduceNe, Nat.reduceLeDiff, Int.reducePow, Nat.reducePow, Nat.reduceLT, Nat.reduceSub, Nat.reduceMod, Nat.reduceDiv, slot_neg, slot_pos, T.ag_24, T.ag_3, T.ag_31, T.ag_4, T.ag_9, T.eb_28, T.es_28, T.ez_28, T.fo_24_0, T.fo_24_2, T.fo_24_5, T.fo_24_6, T.fo_24_7, T.fo_24_8, T.gf_13, T.gf_14, T.gf_15, T.gf_19, T.gf_20, T.gf_21, T.ib_25, T.ib_3, T.ii_28, T.ii_9, T.ip_25, T.ip_3, T.s8_28, T.s8_9, T.sl_28, T.sl_9, T.st_28, T.st_9, T.un_28, T.un_9, T.zo_24, T.zo_31, e1, r2', r5', hg5, ht5, bc_len, bc_one, e2, e3]
      obtain ⟨t1, t2⟩ := two_new (B := .cells [] .own) (a := bc bs) (cs := bs ++ rest) (n := bs.length + rest.length) (by rw [List.length_append]) hK
      rw [← bc_app] at t1 t2
      exact ⟨⟨by omega, by omega⟩, e4, ⟨by omega, by omega⟩, H'.next + 1 + 1, _, _, rfl, g2, by omega, t1, t2⟩
  clear hg5 hj5 hv5 r5' r2' g2 n2 n25 hK hBH hR
  rintro r2 H2 ⟨j7, A, c, r21, r22, g2, n27, r25, ⟨h7, hj7, hg7⟩, hK⟩
  have hback := back k v d s t len num sz ph l hr rest hrest
  rw [hbs, pget] at hback
  obtain ⟨⟨k', v', d', s', t', len', hf⟩, hsh⟩ := HF.getP (bs ++ rest) d.length
  generalize hG : getP (bs ++ rest) d.length = G at hback hf hsh
  have hal : (bs ++ rest).length ≤ 12000 := by rw [List.length_append]; omega
  refine CodeH.cut1 [] hm (fun r3 H3 => ∃ b8 lst8, r3 1 = .slice A rest.length c ∧ r3 2 = .pointer (some ⟨b2, 0, none⟩) ∧ H3.get b2 = .live (.cells (hdv k v d s t len num sz ph lst) .own) ∧ r3 5 = .slice (some ⟨j5, 0, none⟩) bs.length 1 ∧ (∃ A' c', r3 7 = .slice A' (bs ++ rest).length c') ∧
    b2 < b8 ∧ r3 8 = .pointer (some ⟨b8, 0, none⟩) ∧ H3.get b8 = .live (.cells (hd9 k' v' d' s' t' len' ++ [lst8]) .own) ∧ b8 < H3.next ∧ SlN H3 h.next b8 lst8 G.list ∧ r3 9 = .int .i64 G.at_ ∧ r3 10 = .int .i64 G.en ∧ r3 6 = .int .i64 G.e ∧ Kept h H3) (by kernel_rfl) ?_ ?_
  · have h7' : r2 7 = .slice (some ⟨j7, 0, none⟩) (bs ++ rest).length 1 := h7
    simp (config := { dsimp := false, maxSteps := 10000000 }) (disch := omega) only [go_sem, reduceIte, Nat.reduceEqDiff, reduceCtorEq, Nat.reduceAdd, Nat.reduceMul, Int.reduceToNat, Int.reduceLE, Int.reduceLT, Int.reduceEq, Int.reduceNe, Nat.reduceLeDiff, Int.reducePow, Nat.reducePow, Nat.reduceLT, Nat.reduceSub, Nat.reduceMod, Nat.reduceDiv, slot_neg, slot_pos, T.ag_24, T.ag_3, T.ag_31, T.ag_4, T.ag_9, T.eb_28, T.es_28, T.ez_28, T.fo_24_0, T.fo_24_2, T.fo_24_5, T.fo_24_6, T.fo_24_7, T.fo_24_8, T.gf_13, T.gf_14, T.gf_15, T.gf_19, T.gf_20, T.gf_21, T.ib_25, T.ib_3, T.ii_28, T.ii_9, T.ip_25, T.ip_3, T.s8_28, T.s8_9, T.sl_28, T.sl_9, T.st_28, T.st_9, T.un_28, T.un_9, T.zo_24, T.zo_31, r21, r22, r25, h7', g2, hdv]
    refine get_new H2 (bs ++ rest) d.length _ (.inr ⟨j7, 0, _, _, rfl, hg7, by rw [List.drop_zero, List.take_of_length_le (by rw [bc_len]; exact Nat.le_refl _)], by rw [bc_len]; omega⟩) (by omega) (fun a n m e => by cases e; exact hj7) _ fun lst8 H3 hs8 hk3 hfr => ?_
    have hone : lst8.oneCell' = true := hs8.toX.one
    rw [hG] at hs8 ⊢
    rw [hf]
    have hkn := hk3.1
    have hg2 := (hk3.2 b2 (by omega)).trans g2
    simp (config := { dsimp := false, maxSteps := 10000000 }) (disch := omega) only [go_sem, reduceIte, Nat.reduceEqDiff, reduceCtorEq, Nat.reduceAdd, Nat.reduceMul, Int.reduceToNat, Int.reduceLE, Int.reduceLT, Int.reduceEq, Int.reduceNe, Nat.reduceLeDiff, Int.reducePow, Nat.reducePow, Nat.reduceLT, Nat.reduceSub, Nat.reduceMod, Nat.reduceDiv, slot_neg, slot_pos, T.ag_24, T.ag_3, T.ag_31, T.ag_4, T.ag_9, T.eb_28, T.es_28, T.ez_28, T.fo_24_0, T.fo_24_2, T.fo_24_5, T.fo_24_6, T.fo_24_7, T.fo_24_8, T.gf_13, T.gf_14, T.gf_15, T.gf_19, T.gf_20, T.gf_21, T.ib_25, T.ib_3, T.ii_28, T.ii_9, T.ip_25, T.ip_3, T.s8_28, T.s8_9, T.sl_28, T.sl_9, T.st_28, T.st_9, T.un_28, T.un_9, T.zo_24, T.zo_31, r21, r22, r25, h7', hdv, hd9, hone]
    exact ⟨H3.next, lst8, by rw [hg2]; rfl, ⟨_, _, rfl⟩, by omega, rfl, by rw [if_pos rfl], by omega, SlN.made (hs8.le hK.1) hfr, ((hK.trans hk3).alloc').put' (by have := hK.1; omega)⟩
  clear g2 hg7 hj7 h7 hK r21 r22 r25
  rintro r3 H3 ⟨b8, lst8, r31, r32, g2, r35, ⟨A', c', r37⟩, n28, r38, g8, n8, sl8, r39, r310, r36, hK⟩
  have hszb : 0 ≤ sz ∧ sz ≤ 4 := by obtain ⟨_, hcase⟩ := hr; rcases hcase with ⟨_, _, h, _⟩ | ⟨_, _, h, _⟩ | ⟨_, _, h, _⟩ | ⟨_, _, h, _⟩ <;> omega
  have hlenb : 0 ≤ len ∧ len ≤ 16383 := hr.1.2.2.2.2.1
  have w1 : IntKind.i64.wrap (sz + (rest.length : Int)) = sz + rest.length := by rw [i64wrap] <;> omega
  refine CodeH.cut1 [] hm (fun r4 H4 => H4 = H3 ∧ ¬ (k < 3 ∧ sz + rest.length < len) ∧ r4 2 = r3 2 ∧ r4 5 = r3 5 ∧ r4 7 = r3 7 ∧ r4 8 = r3 8 ∧ r4 9 = r3 9 ∧ r4 10 = r3 10 ∧ r4 6 = r3 6) (by kernel_rfl) ?_ ?_
  · have hG3 : k < 3 → sz + rest.length < len → G.e = 3 := fun x y => by rw [hback]; unfold backS; rw [if_pos x, if_pos y]; rfl
    by_cases h3 : k < 3
    · have h3' : (k < 3) = True := eq_true h3
      by_cases hl3 : sz + rest.length < len
      · have hl3' : (sz + (rest.length : Int) < len) = True := eq_true hl3
        rw [hG3 h3 hl3] at r36
        simp (config := { dsimp := false, maxSteps := 10000000 }) (disch := omega) only [go_sem, reduceIte, Nat.reduceEqDiff, reduceCtorEq, Nat.reduceAdd, Nat.reduceMul, Int.reduceToNat, Int.reduceLE, Int.reduceLT, Int.reduceEq, Int.reduceNe, Nat.reduceLeDiff, Int.reducePow, Nat.reducePow, Nat.reduceLT, Nat.reduceSub, Nat.reduceMod, Nat.reduceDiv, slot_neg, slot_pos, T.ag_24, T.ag_3, T.ag_31, T.ag_4, T.ag_9, T.eb_28, T.es_28, T.ez_28, T.fo_24_0, T.fo_24_2, T.fo_24_5, T.fo_24_6, T.fo_24_7, T.fo_24_8, T.gf_13, T.gf_14, T.gf_15, T.gf_19, T.gf_20, T.gf_21, T.ib_25, T.ib_3, T.ii_28, T.ii_9, T.ip_25, T.ip_3, T.s8_28, T.s8_9, T.sl_28, T.sl_9, T.st_28, T.st_9, T.un_28, T.un_9, T.zo_24, T.zo_31, r31, r32, r36, g2, hdv, h3', w1, hl3']
      · have hl3' : (sz + (rest.length : Int) < len) = False := eq_false hl3
        simp (config := { dsimp := false, maxSteps := 10000000 }) (disch := omega) only [go_sem, reduceIte, Nat.reduceEqDiff, reduceCtorEq, Nat.reduceAdd, Nat.reduceMul, Int.reduceToNat, Int.reduceLE, Int.reduceLT, Int.reduceEq, Int.reduceNe, Nat.reduceLeDiff, Int.reducePow, Nat.reducePow, Nat.reduceLT, Nat.reduceSub, Nat.reduceMod, Nat.reduceDiv, slot_neg, slot_pos, T.ag_24, T.ag_3, T.ag_31, T.ag_4, T.ag_9, T.eb_28, T.es_28, T.ez_28, T.fo_24_0, T.fo_24_2, T.fo_24_5, T.fo_24_6, T.fo_24_7, T.fo_24_8, T.gf_13, T.gf_14, T.gf_15, T.gf_19, T.gf_20, T.gf_21, T.ib_25, T.ib_3, T.ii_28, T.ii_9, T.ip_25, T.ip_3, T.s8_28, T.s8_9, T.sl_28, T.sl_9, T.st_28, T.st_9, T.un_28, T.un_9, T.zo_24, T.zo_31, r31, r32, r36, g2, hdv, h3', w1, hl3']
    · have h3' : (k < 3) = False := eq_false h3
      simp (config := { dsimp := false, maxSteps := 10000000 }) (disch := omega) only [go_sem, reduceIte, Nat.reduceEqDiff, reduceCtorEq, Nat.reduceAdd, Nat.reduceMul, Int.reduceToNat, Int.reduceLE, Int.reduceLT, Int.reduceEq, Int.reduceNe, Nat.reduceLeDiff, Int.reducePow, Nat.reducePow, Nat.reduceLT, Nat.reduceSub, Nat.reduceMod, Nat.reduceDiv, slot_neg, slot_pos, T.ag_24, T.ag_3, T.ag_31, T.ag_4, T.ag_9, T.eb_28, T.es_28, T.ez_28, T.fo_24_0, T.fo_24_2, T.fo_24_5, T.fo_24_6, T.fo_24_7, T.fo_24_8, T.gf_13, T.gf_14, T.gf_15, T.gf_19, T.gf_20, T.gf_21, T.ib_25, T.ib_3, T.ii_28, T.ii_9, T.ip_25, T.ip_3, T.s8_28, T.s8_9, T.sl_28, T.sl_9, T.st_28, T.st_9, T.un_28, T.un_9, T.zo_24, T.zo_31, r31, r32, r36, g2, hdv, h3', w1]
  rintro r4 H4 ⟨rfl, hn, q2, q5, q7, q8, q9, q10, q6⟩
  obtain ⟨z1, z2, z3, z4, z5, z6⟩ := back_ok (bl := bs.length) hr hn
  rw [← hback] at z1 z2 z3 z4 z5 z6
  rw [hf] at z1
  rw [z1] at g8
  rw [z2] at sl8
  rw [r32] at q2
  rw [r35] at q5
  rw [r37] at q7
  rw [r38] at q8
  rw [r39] at q9
  rw [r310] at q10
  rw [r36, z3] at q6
  clear r31 r32 r35 r37 r38 r39 r310 r36
  refine CodeH.cut2 [] hm (fun r5 H5 => ∃ b11, r5 2 = .pointer (some ⟨b2, 0, none⟩) ∧ r5 5 = .slice (some ⟨j5, 0, none⟩) bs.length 1 ∧ r5 7 = .slice A' (bs ++ rest).length c' ∧ r5 8 = .pointer (some ⟨b8, 0, none⟩) ∧ r5 9 = .int .i64 G.at_ ∧ r5 10 = .int .i64 G.en ∧ r5 6 = .int .i64 0 ∧
    r5 11 = .pointer (some ⟨b11, 0, none⟩) ∧ H5.get b11 = .live (.cells (hdv k v d s t len 0 0 false lst) .own) ∧ b11 < H5.next ∧ Kept H4 H5) (by kernel_rfl) ?_ ?_
  · simp (config := { dsimp := false, maxSteps := 10000000 }) (disch := omega) only [go_sem, reduceIte, Nat.reduceEqDiff, reduceCtorEq, Nat.reduceAdd, Nat.reduceMul, Int.reduceToNat, Int.reduceLE, Int.reduceLT, Int.reduceEq, Int.reduceNe, Nat.reduceLeDiff, Int.reducePow, Nat.reducePow, Nat.reduceLT, Nat.reduceSub, Nat.reduceMod, Nat.reduceDiv, slot_neg, slot_pos, T.ag_24, T.ag_3, T.ag_31, T.ag_4, T.ag_9, T.eb_28, T.es_28, T.ez_28, T.fo_24_0, T.fo_24_2, T.fo_24_5, T.fo_24_6, T.fo_24_7, T.fo_24_8, T.gf_13, T.gf_14, T.gf_15, T.gf_19, T.gf_20, T.gf_21, T.ib_25, T.ib_3, T.ii_28, T.ii_9, T.ip_25, T.ip_3, T.s8_28, T.s8_9, T.sl_28, T.sl_9, T.st_28, T.st_9, T.un_28, T.un_9, T.zo_24, T.zo_31, q2, q5, q7, q8, q9, q10, q6, g2, hdv, o1, c1]
    exact ⟨H4.next, rfl, by rw [if_pos rfl], by omega, (((Kept.alloc _ _).put' (Nat.le_refl _)).put' (Nat.le_refl _)).put' (Nat.le_refl _) |>.put' (Nat.le_refl _)⟩
  rintro r5 H5 ⟨b11, q2, q5, q7, q8, q9, q10, q6, q11, g11, n11, hK5⟩
  have hk5n := hK5.1
  have g2' := (hK5.2 b2 (by omega)).trans g2
  have g8' := (hK5.2 b8 n8).trans g8
  have sl8' := sl8.kept hK5
  have hsX : SlX H5 lst l := hs.kept (hK.trans hK5) hlt
  have hltX : ∀ a n m, lst = .slice (some a) n m → a.block < H5.next := fun a n m e => Nat.lt_of_lt_of_le (hlt a n m e) (hK.trans hK5).1
  refine CodeH.cut1 [13] hm (fun r6 H6 => r6 2 = .pointer (some ⟨b2, 0, none⟩) ∧ H6.get b2 = .live (.cells (hdv k v d s t len num sz ph lst) .own) ∧ r6 5 = .slice (some ⟨j5, 0, none⟩) bs.length 1 ∧ r6 7 = .slice A' (bs ++ rest).length c' ∧ r6 9 = .int .i64 G.at_ ∧ r6 10 = .int .i64 G.en) (by kernel_rfl) ?_ ?_
  · simp (config := { dsimp := false, maxSteps := 10000000 }) (disch := omega) only [go_sem, reduceIte, Nat.reduceEqDiff, reduceCtorEq, Nat.reduceAdd, Nat.reduceMul, Int.reduceToNat, Int.reduceLE, Int.reduceLT, Int.reduceEq, Int.reduceNe, Nat.reduceLeDiff, Int.reducePow, Nat.reducePow, Nat.reduceLT, Nat.reduceSub, Nat.reduceMod, Nat.reduceDiv, slot_neg, slot_pos, T.ag_24, T.ag_3, T.ag_31, T.ag_4, T.ag_9, T.eb_28, T.es_28, T.ez_28, T.fo_24_0, T.fo_24_2, T.fo_24_5, T.fo_24_6, T.fo_24_7, T.fo_24_8, T.gf_13, T.gf_14, T.gf_15, T.gf_19, T.gf_20, T.gf_21, T.ib_25, T.ib_3, T.ii_28, T.ii_9, T.ip_25, T.ip_3, T.s8_28, T.s8_9, T.sl_28, T.sl_9, T.st_28, T.st_9, T.un_28, T.un_9, T.zo_24, T.zo_31, q2, q5, q7, q8, q9, q10, q6, q11]
    refine draw_plan [] (.take 0 (.take 1 (.take 2 (.take 3 (.take 5 (.alt 4 (.alt 6 (.take 7 (.take 8 .done)) .stop) .stop)))))) hm (by kernel_rfl) (by kernel_rfl) ?_
    simp (config := { dsimp := false, maxSteps := 10000000 }) (disch := omega) only [go_sem, reduceIte, Nat.reduceEqDiff, reduceCtorEq, Nat.reduceAdd, Nat.reduceMul, Int.reduceToNat, Int.reduceLE, Int.reduceLT, Int.reduceEq, Int.reduceNe, Nat.reduceLeDiff, Int.reducePow, Nat.reducePow, Nat.reduceLT, Nat.reduceSub, Nat.reduceMod, Nat.reduceDiv, slot_neg, slot_pos, T.ag_24, T.ag_3, T.ag_31, T.ag_4, T.ag_9, T.eb_28, T.es_28, T.ez_28, T.fo_24_0, T.fo_24_2, T.fo_24_5, T.fo_24_6, T.fo_24_7, T.fo_24_8, T.gf_13, T.gf_14, T.gf_15, T.gf_19, T.gf_20, T.gf_21, T.ib_25, T.ib_3, T.ii_28, T.ii_9, T.ip_25, T.ip_3, T.s8_28, T.s8_9, T.sl_28, T.sl_9, T.st_28, T.st_9, T.un_28, T.un_9, T.zo_24, T.zo_31, q2, q5, q7, q8, q9, q10, q6, q11, g8', g11, hdv, hd9]
    refine ⟨by omega, n11, (from_ph (H5.mask []) k v d s t len 0 0 false lst8 sl8'.toX.one sl8'.toX.cells).mono fun w h2 ⟨hw, hk2⟩ => ?_⟩
    subst hw
    simp (config := { dsimp := false, maxSteps := 10000000 }) (disch := omega) only [go_sem, reduceIte, Nat.reduceEqDiff, reduceCtorEq, Nat.reduceAdd, Nat.reduceMul, Int.reduceToNat, Int.reduceLE, Int.reduceLT, Int.reduceEq, Int.reduceNe, Nat.reduceLeDiff, Int.reducePow, Nat.reducePow, Nat.reduceLT, Nat.reduceSub, Nat.reduceMod, Nat.reduceDiv, slot_neg, slot_pos, T.ag_24, T.ag_3, T.ag_31, T.ag_4, T.ag_9, T.eb_28, T.es_28, T.ez_28, T.fo_24_0, T.fo_24_2, T.fo_24_5, T.fo_24_6, T.fo_24_7, T.fo_24_8, T.gf_13, T.gf_14, T.gf_15, T.gf_19, T.gf_20, T.gf_21, T.ib_25, T.ib_3, T.ii_28, T.ii_9, T.ip_25, T.ip_3, T.s8_28, T.s8_9, T.sl_28, T.sl_9, T.st_28, T.st_9, T.un_28, T.un_9, T.zo_24, T.zo_31, q2, q5, q7, q8, q9, q10, q6, q11, g8', g11, hdv, hd9]
    have mk : ∀ {v : Value}, SlX H5 v l → (∀ a n m, v = .slice (some a) n m → a.block < H5.next) → SlX h2 v l ∧ ∀ a n m, v = .slice (some a) n m → a.block < h2.next := fun {v} hs hlt => by
      rcases hs with ⟨x, y⟩ | ⟨p, o, vs, q, a1, a2, a3, a4⟩
      · exact ⟨.inl ⟨x, y⟩, fun a n m e => by rw [x] at e; cases e⟩
      · have := hlt _ _ _ a1
        refine ⟨.inr ⟨p, o, vs, q.lk, a1, ?_, a3, a4⟩, fun a n m e => Nat.lt_of_lt_of_le (hlt _ _ _ e) hk2.1⟩
        rw [hk2.2 p this, get_mask, if_neg (by simp), a2, lock_live', lock_cells]
    have hlt8 : ∀ a n m, lst8 = .slice (some a) n m → a.block < H5.next := fun a n m e => by
      rcases sl8' with ⟨x, _⟩ | ⟨i, q, a1, a2, a3, a4, a5⟩
      · rw [x] at e; cases e
      · rw [a4] at e; cases e; exact a3
    refine (Same_ph h2 k v d s t len 0 0 false lst8 lst l (mk sl8'.toX hlt8).1 (mk hsX hltX).1 (by omega) (mk sl8'.toX hlt8).2 (mk hsX hltX).2).mono fun w h3 hw => ?_
    subst hw
    simp (config := { dsimp := false, maxSteps := 10000000 }) (disch := omega) only [go_sem, reduceIte, Nat.reduceEqDiff, reduceCtorEq, Nat.reduceAdd, Nat.reduceMul, Int.reduceToNat, Int.reduceLE, Int.reduceLT, Int.reduceEq, Int.reduceNe, Nat.reduceLeDiff, Int.reducePow, Nat.reducePow, Nat.reduceLT, Nat.reduceSub, Nat.reduceMod, Nat.reduceDiv, slot_neg, slot_pos, T.ag_24, T.ag_3, T.ag_31, T.ag_4, T.ag_9, T.eb_28, T.es_28, T.ez_28, T.fo_24_0, T.fo_24_2, T.fo_24_5, T.fo_24_6, T.fo_24_7, T.fo_24_8, T.gf_13, T.gf_14, T.gf_15, T.gf_19, T.gf_20, T.gf_21, T.ib_25, T.ib_3, T.ii_28, T.ii_9, T.ip_25, T.ip_3, T.s8_28, T.s8_9, T.sl_28, T.sl_9, T.st_28, T.st_9, T.un_28, T.un_9, T.zo_24, T.zo_31, q2, q5, q7, q8, q9, q10, q6, q11, g8', g11, hdv, hd9]
    rw [g2']; rfl
  rintro r6 H6 ⟨r62, g6, r65, r67, r69, r610⟩
  refine CodeH.of_vc [] hm (by kernel_rfl) ?_
  have wz : IntKind.i64.wrap ((bs.length : Int) - sz) = bs.length - sz := by rw [i64wrap] <;> omega
  have wl : IntKind.i64.wrap ((bs.length : Int) - sz + len) = bs.length - sz + len := by rw [i64wrap] <;> omega
  have hk6 : k = 0 ∨ k = 1 ∨ k = 2 ∨ k = 4 ∨ k = 3 ∨ k = 5 := by obtain ⟨_, hcase⟩ := hr; omega
  rcases hk6 with rfl | rfl | rfl | rfl | rfl | rfl
  iterate 3
    · obtain ⟨y1, y2⟩ := z4 (by decide)
      rw [y1] at r69
      rw [y2] at r610
      simp (config := { dsimp := false, maxSteps := 10000000 }) (disch := omega) only [go_sem, reduceIte, Nat.reduceEqDiff, reduceCtorEq, Nat.reduceAdd, Nat.reduceMul, Int.reduceToNat, Int.reduceLE, Int.reduceLT, Int.reduceEq, Int.reduceNe, Nat.reduceLeDiff, Int.reducePow, Nat.reducePow, Nat.reduceLT, Nat.reduceSub, Nat.reduceMod, Nat.reduceDiv, slot_neg, slot_pos, T.ag_24, T.ag_3, T.ag_31, T.ag_4, T.ag_9, T.eb_28, T.es_28, T.ez_28, T.fo_24_0, T.fo_24_2, T.fo_24_5, T.fo_24_6, T.fo_24_7, T.fo_24_8, T.gf_13, T.gf_14, T.gf_15, T.gf_19, T.gf_20, T.gf_21, T.ib_25, T.ib_3, T.ii_28, T.ii_9, T.ip_25, T.ip_3, T.s8_28, T.s8_9, T.sl_28, T.sl_9, T.st_28, T.st_9, T.un_28, T.un_9, T.zo_24, T.zo_31, r62, g6, r65, r67, r69, r610, hdv, wz, wl]
  · obtain ⟨y1, y2⟩ := z5 rfl
    rw [y1] at r69
    rw [y2] at r610
    simp (config := { dsimp := false, maxSteps := 10000000 }) (disch := omega) only [go_sem, reduceIte, Nat.reduceEqDiff, reduceCtorEq, Nat.reduceAdd, Nat.reduceMul, Int.reduceToNat, Int.reduceLE, Int.reduceLT, Int.reduceEq, Int.reduceNe, Nat.reduceLeDiff, Int.reducePow, Nat.reducePow, Nat.reduceLT, Nat.reduceSub, Nat.reduceMod, Nat.reduceDiv, slot_neg, slot_pos, T.ag_24, T.ag_3, T.ag_31, T.ag_4, T.ag_9, T.eb_28, T.es_28, T.ez_28, T.fo_24_0, T.fo_24_2, T.fo_24_5, T.fo_24_6, T.fo_24_7, T.fo_24_8, T.gf_13, T.gf_14, T.gf_15, T.gf_19, T.gf_20, T.gf_21, T.ib_25, T.ib_3, T.ii_28, T.ii_9, T.ip_25, T.ip_3, T.s8_28, T.s8_9, T.sl_28, T.sl_9, T.st_28, T.st_9, T.un_28, T.un_9, T.zo_24, T.zo_31, r62, g6, r65, r67, r69, r610, hdv, wz, wl, List.length_append, Int.natCast_add]
  iterate 2
    · obtain ⟨y1, y2⟩ := z6 (by decide) (by decide)
      rw [y1] at r69
      rw [y2] at r610
      simp (config := { dsimp := false, maxSteps := 10000000 }) (disch := omega) only [go_sem, reduceIte, Nat.reduceEqDiff, reduceCtorEq, Nat.reduceAdd, Nat.reduceMul, Int.reduceToNat, Int.reduceLE, Int.reduceLT, Int.reduceEq, Int.reduceNe, Nat.reduceLeDiff, Int.reducePow, Nat.reducePow, Nat.reduceLT, Nat.reduceSub, Nat.reduceMod, Nat.reduceDiv, slot_neg, slot_pos, T.ag_24, T.ag_3, T.ag_31, T.ag_4, T.ag_9, T.eb_28, T.es_28, T.ez_28, T.fo_24_0, T.fo_24_2, T.fo_24_5, T.fo_24_6, T.fo_24_7, T.fo_24_8, T.gf_13, T.gf_14, T.gf_15, T.gf_19, T.gf_20, T.gf_21, T.ib_25, T.ib_3, T.ii_28, T.ii_9, T.ip_25, T.ip_3, T.s8_28, T.s8_9, T.sl_28, T.sl_9, T.st_28, T.st_9, T.un_28, T.un_9, T.zo_24, T.zo_31, r62, g6, r65, r67, r69, r610, hdv, wz, wl]
end Ph
