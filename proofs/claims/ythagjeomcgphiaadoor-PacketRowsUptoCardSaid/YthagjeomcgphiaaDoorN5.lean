import Derived.Test.YthagjeomcgphiaaDoorM08
import Derived.Test.YthagjeomcgphiaaDoorPhRead
set_option maxRecDepth 100000
set_option maxHeartbeats 4000000
set_option linter.unusedSimpArgs false
set_option linter.unusedVariables false
namespace Ph
open Go Go.Proofs
attribute [local irreducible] Value.cells
attribute [local go_sem ↓] s_move s_assign s_pick s_nil s_bin s_un s_fa s_field s_ext s_ia s_ix s_slice s_conv s_build s_bs s_mf s_alloc s_box s_load s_store s_len s_min s_max s_app s_call q_call q_move q_assign q_pick q_nil q_bin q_un q_fa q_field q_ext q_ia q_ix q_slice q_conv q_build q_mf q_load q_len q_min q_max l_nil l_move l_assign l_pick l_nilc l_bin l_un l_fa l_field l_ext l_ia l_ix l_slice l_conv l_build l_mf l_load l_len l_min l_max l_call put_eq putN_eq o_nil o_plain o_gate v_nil v_plain v_gate vc_skip vc_region vc_seq vc_cond vc_block vc_loop vc_exit vc_ret blk_normal blk_ret blk_exit on_normal on_ret on_exit vc_drawn draw_q s_mk l_bs l_mk l_alloc l_box l_store l_app pl_done pl_take pl_alt pl_stop one_plain one_gate
attribute [local go_sem] onAgg_a onTuple_t onFunc_f c_int c_nil c_sl c_str sl_sl sl_nil sl_str ix_str ix_agg n_nil n_sl n_str app_eq k_nil k_sl len_sl len_str upd_some upd_none ev_tmp ev_const ev_func rd_some gdst_eq otmp_t otmp_c get_put get_alloc next_put next_alloc get_app next_app init_a resV1 resV2 onPtr_ptr onBool_b onInt_i onSlice_s onSome_s onCells_c lett_eq gate_tt gate_tf gate_ff gate_ft gate_dt gate_df also_eq bin un minmax io_none io_some bo_none bo_some partOf List.getElem?_cons_zero List.getElem?_cons_succ List.getElem?_toArray Option.map_some Option.map_none Option.bind_some ne_eq not_true_eq_false not_false_eq_true false_implies true_implies and_true true_and and_self Bool.false_eq_true Nat.zero_add Nat.add_zero List.size_toArray List.length_cons List.length_nil List.map_toArray List.map_cons List.map_nil Array.getD_eq_getD_getElem? Option.getD_some Bool.not_true Bool.not_false Bool.not_eq_true Option.isNone_some Option.isNone_none List.append_toArray List.append_nil List.nil_append List.cons_append decide_true decide_false in_nil in_cons Bool.and_false Bool.and_true Bool.or_false Bool.true_or Bool.false_or get_mask next_mask get_unmask next_unmask ac_move ac_assign ac_pick ac_nil ac_bin ac_un ac_fa ac_field ac_ext ac_ia ac_ix ac_slice ac_build ac_mf ac_call ac_load ac_conv accP_p accS_s accS_n accS_i accS_t fixed_ro fixed_lock fixed_own get_ro next_ro lock_live' lock_cells List.mem_cons List.not_mem_nil or_false false_or or_true true_or and_false false_and IntKind.bits Int.natCast_zero Int.natCast_one size_str data_str list_str mk_str ext_str app_str bytes_str w_byte w_byteu Int.toNat_natCast Int.toNat_zero Int.toNat_one Nat.sub_zero ge_iff_le gt_iff_lt Nat.le_refl Int.le_refl List.drop_zero Int.ofNat_eq_natCast Int.natCast_nonneg Int.sub_zero oc_int oc_bool oc_str oc_ptr oc_sl oc_map oc_func List.set_cons_zero List.set_cons_succ Nat.mul_one List.all_cons List.all_nil Bool.and_self res_nil res_tmp res_cell tup_one tup_two tup_nil fill_nil repl_zero cells_agg List.append_eq List.toList_toArray Nat.zero_mul Nat.one_mul repl_one repl_two onSome_build fill_cons onSome_lit splice_eq cells_int cells_bool cells_str cells_ptr cells_sl cells_map cells_func loadK_n loadK_s load_k storeK_n storeK_s store_k all_arr List.take_zero List.take_succ_cons List.drop_succ_cons List.take_nil List.drop_nil lk_own lk_ro lk_lock lk_lk fixed_lk gate_nt gate_nf gate3_b gate3_u undef Bool.true_and Bool.false_and nx_l nx_r nx_lt
theorem cells_ints {k : IntKind} {h : Heap} : ∀ {l : List Int} {cells : List Value}, cells.length = l.length * 1 → (∀ (i : Nat) (x : Int), l[i]? = some x → (Rd.int k).rep h x ((cells.drop (i * 1)).take 1)) → cells = l.map (Value.int k)
  | [], [], _, _ => rfl
  | [], _ :: _, hl, _ => by simp at hl
  | _ :: _, [], hl, _ => by simp at hl
  | x :: l, c :: cs, hl, hr => by
    have h0 : (List.take 1 (List.drop (0 * 1) (c :: cs))) = [.int k x] := hr 0 x rfl
    simp at h0
    rw [List.map_cons, h0, cells_ints (l := l) (cells := cs) (by simpa using hl) (fun i y hy => by
      have := hr (i + 1) y (by simpa using hy)
      simpa [Nat.add_mul] using this)]
theorem SlR.toB {h : Heap} {v : Value} {l : List Int} (hs : SlR (Rd.int .u8) h v l) (hw : ∀ x ∈ l, (Lit.int .u8 x).wf = true) : SlB h v (l.map fun x => UInt8.ofNat x.toNat) := by
  rcases hs with ⟨h1, h2⟩ | ⟨i, cells, h1, h2, h3, h4, h5⟩
  · exact .inl ⟨h1, by rw [h2]; rfl⟩
  · have hc := cells_ints h4 h5
    have h4 : cells.length = l.length := by rw [h4]; exact Nat.mul_one _
    refine .inr ⟨i, 0, cells, .ro, by rw [h1, List.length_map]; rfl, h3, ?_, by rw [List.length_map, h4]; omega⟩
    rw [List.drop_zero, List.take_of_length_le (by rw [List.length_map, h4]; omega), hc, bc, List.map_map]
    refine List.map_congr_left fun x hx => ?_
    have := hw x hx
    simp only [Function.comp]
    have h0 : 0 ≤ x ∧ x ≤ 255 := by
      have := hw x hx
      simpa [Lit.wf, IntKind.min, IntKind.max, IntKind.bits, IntKind.signed] using this
    have : ((UInt8.ofNat x.toNat).toNat : Int) = x := by
      rw [UInt8.toNat_ofNat']; omega
    rw [this]
/-- a list in a new block, unlike another one -/
def SlN (H : Heap) (n0 b : Nat) (v : Value) (l : List Int) : Prop := (v = .slice none 0 0 ∧ l = []) ∨ ∃ i q, n0 ≤ i ∧ i ≠ b ∧ i < H.next ∧ v = .slice (some ⟨i, 0, none⟩) l.length 1 ∧ H.get i = .live (.cells (ic l) q)
theorem SlI.le {n0 n1 : Nat} {H : Heap} {v : Value} {l : List Int} (hs : SlI n1 H v l) (hn : n0 ≤ n1) : SlI n0 H v l := by
  rcases hs with hs | ⟨i, q, a1, a2, a3⟩
  · exact .inl hs
  · exact .inr ⟨i, q, by omega, a2, a3⟩
theorem SlN.made {H : Heap} {n0 : Nat} {v : Value} {l : List Int} {b : Blk} {x : Slot} (hs : SlI n0 H v l) (hfr : ∀ i, H.next ≤ i → H.get i = .free) : SlN ((H.alloc b).put H.next x) n0 H.next v l := by
  rcases hs with hs | ⟨i, q, a1, a2, a3⟩
  · exact .inl hs
  · have hi : i < H.next := by
      rcases Nat.lt_or_ge i H.next with x | x
      · exact x
      · rw [hfr i x] at a3; cases a3
    exact .inr ⟨i, q, a1, by omega, by simp [Heap.put, Heap.alloc]; omega, a2, by rw [get_put, if_neg (by omega), get_alloc, if_neg (by omega)]; exact a3⟩
theorem SlN.kept {H H' : Heap} {n0 b : Nat} {v : Value} {l : List Int} (hs : SlN H n0 b v l) (hk : Kept H H') : SlN H' n0 b v l := by
  rcases hs with hs | ⟨i, q, a1, a2, a3, a4, a5⟩
  · exact .inl hs
  · exact .inr ⟨i, q, a1, a2, Nat.lt_of_lt_of_le a3 hk.1, a4, (hk.2 i a3).trans a5⟩
theorem SlN.toX {H : Heap} {n0 b : Nat} {v : Value} {l : List Int} (hs : SlN H n0 b v l) : SlX H v l := by
  rcases hs with hs | ⟨i, q, a1, a2, a3, a4, a5⟩
  · exact .inl hs
  · exact .inr ⟨i, 0, _, q, a4, a5, by rw [List.drop_zero, List.take_of_length_le (by simp [ic])], by simp [ic]⟩
def HF (g : GetR) : Prop := (∃ k v d s t len, g.hd = hd9 k v d s t len) ∧ g.list.length ≤ 16
theorem HF.ite {c : Prop} [Decidable c] {a b : GetR} (ha : c → HF a) (hb : ¬ c → HF b) : HF (if c then a else b) := by
  by_cases h : c
  · rw [if_pos h]; exact ha h
  · rw [if_neg h]; exact hb h
theorem HF.no (e : Int) : HF (noneR e) := ⟨⟨0, 0, [], [], [], 0, rfl⟩, by simp [noneR]⟩
theorem HF.docEnd (n : Nat) (k v : Int) (d s t rest : List UInt8) : HF (docEnd n k v d s t rest) := by
  unfold Ph.docEnd; simp only []
  repeat' first
    | exact HF.no _
    | refine HF.ite (fun _ => ?_) (fun _ => ?_)
  exact ⟨⟨_, _, _, _, _, _, rfl⟩, by simp⟩
theorem HF.getP (l : List UInt8) (own : Int) : HF (getP l own) := by
  rw [← pget]
  unfold docG
  refine HF.ite (fun _ => HF.no _) (fun _ => ?_)
  cases l with
  | nil => exact HF.no _
  | cons b t =>
    simp only []
    unfold docL docD docS docR docK
    repeat' first
      | exact HF.no _
      | exact HF.docEnd _ _ _ _ _ _ _
      | refine HF.ite (fun _ => ?_) (fun _ => ?_)
    all_goals exact ⟨⟨_, _, _, _, _, _, rfl⟩, by first | (simp; done) | (simp only [foursW_len]; omega)⟩
theorem PacketGets_ph (h : Heap) (l0 : (List Int)) (s0 : Value) (hs0 : SlR (Rd.int .u8) h s0 l0) (x1 : Int) (wf0 : (l0.length ≤ maxLen ∧ ∀ x ∈ l0, (Lit.int .u8 x).wf = true)) (wf1 : (Lit.int .i64 x1).wf = true) :
    @CallsH Tryd.prog 5 #[s0, .int .i64 x1] h ⟨fun u _ => u = .bool true⟩ := by
  have hB := hs0.toB wf0.2
  have hlt : ∀ a n m, s0 = .slice (some a) n m → a.block < h.next := fun a n m e => by
    rcases hs0 with ⟨h1, _⟩ | ⟨i, cells, h1, h2, _⟩
    · rw [h1] at e; cases e
    · rw [h1] at e; cases e; exact h2
  generalize hl : (l0.map fun x => UInt8.ofNat x.toNat) = l at hB
  obtain ⟨⟨k, v, d, s, t, len, hf⟩, hsh⟩ := HF.getP l x1
  have hdoc := pget l x1
  have hc1 := hB
  have hcat : ∃ A n c, s0 = .slice A n c ∧ n = l.length := by
    rcases hB with ⟨rfl, rfl⟩ | ⟨_, _, _, _, rfl, _⟩ <;> exact ⟨_, _, _, rfl, rfl⟩
  refine calls_of_codeR (rs := [.tmp 4]) Tryd.func5 rfl rfl (by simp) ?_
  refine CodeH.cut3 [] hm (fun r H => ∃ lst1 b5, r 0 = s0 ∧ r 1 = .int .i64 x1 ∧ r 5 = .pointer (some ⟨b5, 0, none⟩) ∧ H.get b5 = .live (.cells (hd9 k v d s t len ++ [lst1]) .own) ∧ b5 < H.next ∧ h.next ≤ b5 ∧ SlN H h.next b5 lst1 (getP l x1).list ∧
    r 6 = .int .i64 (getP l x1).at_ ∧ r 7 = .int .i64 (getP l x1).en ∧ r 8 = .int .i64 (getP l x1).e ∧ Kept h H ∧ l.length ≤ 5000) (by kernel_rfl) ?_ ?_
  · by_cases h5 : l.length ≤ 5000
    · have hll : l.length < 9223372036854775807 := by omega
      have hgo : ∀ K : Value → Heap → Prop, (∀ lst1 H, SlI h.next H lst1 (getP l x1).list → Kept h H → (∀ i, H.next ≤ i → H.get i = .free) → K (.tuple #[.agg (hd9 k v d s t len ++ [lst1]).toArray, .int .i64 (getP l x1).at_, .int .i64 (getP l x1).en, .int .i64 (getP l x1).e]) H) → @CallsH Tryd.prog 18 #[.string (str l), .int .i64 x1] h ⟨K⟩ := fun K hK => by
        refine CallsH.keep [] (DocGet_ph (h.mask []) l x1 hll wf1) fun w h' ⟨lst1, hw, hs⟩ hn hfr => ?_
        rw [hdoc] at hw hs
        rw [hf] at hw
        subst hw
        refine hK lst1 _ ?_ ⟨hn, fun i hi => by rw [get_unmask, if_pos ⟨hi, by simp⟩]⟩ fun i hi => ?_
        · rcases hs with hs | ⟨i, q, a1, a2, a3⟩
          · exact .inl hs
          · exact .inr ⟨i, q, a1, a2, by rw [get_unmask, if_neg (fun x => by have := x.1; have : h.next ≤ i := a1; omega)]; exact a3⟩
        · have hi : h'.next ≤ i := hi
          rw [get_unmask, if_neg (fun x => by have := x.1; omega)]; exact hfr i hi
      have hone : ∀ lst1 H, SlI h.next H lst1 (getP l x1).list → lst1.oneCell' = true := fun _ _ x => x.toX.one
      rcases hB with ⟨rfl, rfl⟩ | ⟨p, o, vs, q, rfl, hp, hb, hlen⟩
      · simp (config := { dsimp := false, maxSteps := 10000000 }) (disch := omega) only [go_sem, reduceIte, Nat.reduceEqDiff, reduceCtorEq, Nat.reduceAdd, Nat.reduceMul, Int.reduceToNat, Int.reduceLE, Int.reduceLT, Int.reduceEq, Int.reduceNe, Nat.reduceLeDiff, Int.reducePow, Nat.reducePow, Nat.reduceLT, Nat.reduceSub, Nat.reduceMod, Nat.reduceDiv, slot_neg, slot_pos, T.ag_24, T.ag_31, T.gf_15, T.gf_18, T.gf_19, T.gf_20, T.gf_21, T.ib_25, T.ib_3, T.ii_28, T.ii_9, T.ip_25, T.ip_3, T.s8_28, T.s8_9, T.sl_28, T.sl_9, T.st_28, T.st_9, T.un_28, T.un_9, T.zo_24, T.zo_31, init_a]
        refine hgo _ fun lst1 H hs hk hfr => ?_
        have h1 := hone lst1 H hs
        simp (config := { dsimp := false, maxSteps := 10000000 }) (disch := omega) only [go_sem, reduceIte, Nat.reduceEqDiff, reduceCtorEq, Nat.reduceAdd, Nat.reduceMul, Int.reduceToNat, Int.reduceLE, Int.reduceLT, Int.reduceEq, Int.reduceNe, Nat.reduceLeDiff, Int.reducePow, Nat.reducePow, Nat.reduceLT, Nat.reduceSub, Nat.reduceMod, Nat.reduceDiv, slot_neg, slot_pos, T.ag_24, T.ag_31, T.gf_15, T.gf_18, T.gf_19, T.gf_20, T.gf_21, T.ib_25, T.ib_3, T.ii_28, T.ii_9, T.ip_25, T.ip_3, T.s8_28, T.s8_9, T.sl_28, T.sl_9, T.st_28, T.st_9, T.un_28, T.un_9, T.zo_24, T.zo_31, init_a, hd9, h1]
        exact ⟨lst1, H.next, rfl, by rw [if_pos rfl], by omega, hk.1, SlN.made hs hfr, (hk.alloc').put' hk.1⟩
      · have h5' : (5000 < (l.length : Int)) = False := eq_false (by omega)
        simp (config := { dsimp := false, maxSteps := 10000000 }) (disch := omega) only [go_sem, reduceIte, Nat.reduceEqDiff, reduceCtorEq, Nat.reduceAdd, Nat.reduceMul, Int.reduceToNat, Int.reduceLE, Int.reduceLT, Int.reduceEq, Int.reduceNe, Nat.reduceLeDiff, Int.reducePow, Nat.reducePow, Nat.reduceLT, Nat.reduceSub, Nat.reduceMod, Nat.reduceDiv, slot_neg, slot_pos, T.ag_24, T.ag_31, T.gf_15, T.gf_18, T.gf_19, T.gf_20, T.gf_21, T.ib_25, T.ib_3, T.ii_28, T.ii_9, T.ip_25, T.ip_3, T.s8_28, T.s8_9, T.sl_28, T.sl_9, T.st_28, T.st_9, T.un_28, T.un_9, T.zo_24, T.zo_31, init_a, h5', hp, hb, bc_val]
        refine ⟨hlen, hgo _ fun lst1 H hs hk hfr => ?_⟩
        have h1 := hone lst1 H hs
        simp (config := { dsimp := false, maxSteps := 10000000 }) (disch := omega) only [go_sem, reduceIte, Nat.reduceEqDiff, reduceCtorEq, Nat.reduceAdd, Nat.reduceMul, Int.reduceToNat, Int.reduceLE, Int.reduceLT, Int.reduceEq, Int.reduceNe, Nat.reduceLeDiff, Int.reducePow, Nat.reducePow, Nat.reduceLT, Nat.reduceSub, Nat.reduceMod, Nat.reduceDiv, slot_neg, slot_pos, T.ag_24, T.ag_31, T.gf_15, T.gf_18, T.gf_19, T.gf_20, T.gf_21, T.ib_25, T.ib_3, T.ii_28, T.ii_9, T.ip_25, T.ip_3, T.s8_28, T.s8_9, T.sl_28, T.sl_9, T.st_28, T.st_9, T.un_28, T.un_9, T.zo_24, T.zo_31, init_a, hd9, h1]
        exact ⟨lst1, H.next, rfl, by rw [if_pos rfl], by omega, hk.1, SlN.made hs hfr, (hk.alloc').put' hk.1, h5⟩
    · have h5' : (5000 < (l.length : Int)) = True := eq_true (by omega)
      obtain ⟨A, n, c, rfl, rfl⟩ := hcat
      simp (config := { dsimp := false, maxSteps := 10000000 }) (disch := omega) only [go_sem, reduceIte, Nat.reduceEqDiff, reduceCtorEq, Nat.reduceAdd, Nat.reduceMul, Int.reduceToNat, Int.reduceLE, Int.reduceLT, Int.reduceEq, Int.reduceNe, Nat.reduceLeDiff, Int.reducePow, Nat.reducePow, Nat.reduceLT, Nat.reduceSub, Nat.reduceMod, Nat.reduceDiv, slot_neg, slot_pos, T.ag_24, T.ag_31, T.gf_15, T.gf_18, T.gf_19, T.gf_20, T.gf_21, T.ib_25, T.ib_3, T.ii_28, T.ii_9, T.ip_25, T.ip_3, T.s8_28, T.s8_9, T.sl_28, T.sl_9, T.st_28, T.st_9, T.un_28, T.un_9, T.zo_24, T.zo_31, init_a, h5']
      exact CallsH.pure _ rfl (heads_ph _) (by simp (config := { dsimp := false, maxSteps := 10000000 }) (disch := omega) only [go_sem, reduceIte, Nat.reduceEqDiff, reduceCtorEq, Nat.reduceAdd, Nat.reduceMul, Int.reduceToNat, Int.reduceLE, Int.reduceLT, Int.reduceEq, Int.reduceNe, Nat.reduceLeDiff, Int.reducePow, Nat.reducePow, Nat.reduceLT, Nat.reduceSub, Nat.reduceMod, Nat.reduceDiv, slot_neg, slot_pos, T.ag_24, T.ag_31, T.gf_15, T.gf_18, T.gf_19, T.gf_20, T.gf_21, T.ib_25, T.ib_3, T.ii_28, T.ii_9, T.ip_25, T.ip_3, T.s8_28, T.s8_9, T.sl_28, T.sl_9, T.st_28, T.st_9, T.un_28, T.un_9, T.zo_24, T.zo_31])
  rintro r H ⟨lst1, b5, r0, r1, r5, g5, n5, m5, sl1, r6, r7, r8, hk, h5⟩
  have hll : l.length < 9223372036854775807 := by omega
  refine CodeH.cut1 [] hm (fun r H => ∃ lst1 b5 lst2 b9, r 5 = .pointer (some ⟨b5, 0, none⟩) ∧ H.get b5 = .live (.cells (hd9 k v d s t len ++ [lst1]) .own) ∧ b5 < b9 ∧ SlN H h.next b5 lst1 (getP l x1).list ∧ SlN H h.next b9 lst2 (getP l x1).list ∧
    r 6 = .int .i64 (getP l x1).at_ ∧ r 7 = .int .i64 (getP l x1).en ∧ r 8 = .int .i64 (getP l x1).e ∧
    r 9 = .pointer (some ⟨b9, 0, none⟩) ∧ H.get b9 = .live (.cells (hd9 k v d s t len ++ [lst2]) .own) ∧ b9 < H.next ∧ r 10 = .int .i64 (getP l x1).at_ ∧ r 11 = .int .i64 (getP l x1).en ∧ r 12 = .int .i64 (getP l x1).e) (by kernel_rfl) ?_ ?_
  · have hsB : SlB (H.mask []) s0 l := by
      rcases hc1 with x | ⟨p, o, vs, q, e1, e2, e3, e4⟩
      · exact .inl x
      · refine .inr ⟨p, o, vs, q.lk, e1, ?_, e3, e4⟩
        rw [get_mask, if_neg (by simp), hk.2 _ (hlt _ _ _ e1), e2, lock_live', lock_cells]
    have hgo : ∀ K : Value → Heap → Prop, (∀ lst1 H2, SlI H.next H2 lst1 (getP l x1).list → Kept H H2 → (∀ i, H2.next ≤ i → H2.get i = .free) → K (.tuple #[.agg (hd9 k v d s t len ++ [lst1]).toArray, .int .i64 (getP l x1).at_, .int .i64 (getP l x1).en, .int .i64 (getP l x1).e]) H2) → @CallsH Tryd.prog 19 #[s0, .int .i64 x1] H ⟨K⟩ := fun K hK => by
      refine CallsH.keep [] (Get_ph (H.mask []) l x1 s0 hsB hll (fun a n m e => Nat.lt_of_lt_of_le (hlt a n m e) hk.1)) fun w h' ⟨lst1, hw, hs⟩ hn hfr => ?_
      rw [hf] at hw
      subst hw
      refine hK lst1 _ ?_ ⟨hn, fun i hi => by rw [get_unmask, if_pos ⟨hi, by simp⟩]⟩ fun i hi => ?_
      · rcases hs with hs | ⟨i, q, a1, a2, a3⟩
        · exact .inl hs
        · exact .inr ⟨i, q, a1, a2, by rw [get_unmask, if_neg (fun x => by have := x.1; have : H.next ≤ i := a1; omega)]; exact a3⟩
      · have hi : h'.next ≤ i := hi
        rw [get_unmask, if_neg (fun x => by have := x.1; omega)]; exact hfr i hi
    simp (config := { dsimp := false, maxSteps := 10000000 }) (disch := omega) only [go_sem, reduceIte, Nat.reduceEqDiff, reduceCtorEq, Nat.reduceAdd, Nat.reduceMul, Int.reduceToNat, Int.reduceLE, Int.reduceLT, Int.reduceEq, Int.reduceNe, Nat.reduceLeDiff, Int.reducePow, Nat.reducePow, Nat.reduceLT, Nat.reduceSub, Nat.reduceMod, Nat.reduceDiv, slot_neg, slot_pos, T.ag_24, T.ag_31, T.gf_15, T.gf_18, T.gf_19, T.gf_20, T.gf_21, T.ib_25, T.ib_3, T.ii_28, T.ii_9, T.ip_25, T.ip_3, T.s8_28, T.s8_9, T.sl_28, T.sl_9, T.st_28, T.st_9, T.un_28, T.un_9, T.zo_24, T.zo_31, r0, r1, r5, r6, r7, r8]
    refine hgo _ fun lst2 H2 hs2 hk2 hfr => ?_
    have h1 : lst2.oneCell' = true := hs2.toX.one
    simp (config := { dsimp := false, maxSteps := 10000000 }) (disch := omega) only [go_sem, reduceIte, Nat.reduceEqDiff, reduceCtorEq, Nat.reduceAdd, Nat.reduceMul, Int.reduceToNat, Int.reduceLE, Int.reduceLT, Int.reduceEq, Int.reduceNe, Nat.reduceLeDiff, Int.reducePow, Nat.reducePow, Nat.reduceLT, Nat.reduceSub, Nat.reduceMod, Nat.reduceDiv, slot_neg, slot_pos, T.ag_24, T.ag_31, T.gf_15, T.gf_18, T.gf_19, T.gf_20, T.gf_21, T.ib_25, T.ib_3, T.ii_28, T.ii_9, T.ip_25, T.ip_3, T.s8_28, T.s8_9, T.sl_28, T.sl_9, T.st_28, T.st_9, T.un_28, T.un_9, T.zo_24, T.zo_31, r0, r1, r5, r6, r7, r8, hd9, h1]
    have hkn := hk2.1
    refine ⟨lst1, b5, lst2, H2.next, rfl, ?_, by omega, sl1.kept (hk2.alloc'.put' hk2.1), SlN.made (hs2.le hk.1) hfr, rfl, by rw [if_pos rfl], by omega⟩
    rw [if_neg (by omega), hk2.2 _ n5, g5]; rfl
  rintro r H ⟨lst1, b5, lst2, b9, r5, g5, n59, sl1, sl2, r6, r7, r8, r9, g9, n9, r10, r11, r12⟩
  refine CodeH.of_vc [5] hm (by kernel_rfl) ?_
  simp (config := { dsimp := false, maxSteps := 10000000 }) (disch := omega) only [go_sem, reduceIte, Nat.reduceEqDiff, reduceCtorEq, Nat.reduceAdd, Nat.reduceMul, Int.reduceToNat, Int.reduceLE, Int.reduceLT, Int.reduceEq, Int.reduceNe, Nat.reduceLeDiff, Int.reducePow, Nat.reducePow, Nat.reduceLT, Nat.reduceSub, Nat.reduceMod, Nat.reduceDiv, slot_neg, slot_pos, T.ag_24, T.ag_31, T.gf_15, T.gf_18, T.gf_19, T.gf_20, T.gf_21, T.ib_25, T.ib_3, T.ii_28, T.ii_9, T.ip_25, T.ip_3, T.s8_28, T.s8_9, T.sl_28, T.sl_9, T.st_28, T.st_9, T.un_28, T.un_9, T.zo_24, T.zo_31, r5, r6, r7, r8, r9, r10, r11, r12]
  refine draw_plan [] (.alt 0 (.take 1 (.take 2 (.take 3 (.alt 4 (.alt 5 (.take 6 (.take 7 (.take 8 (.take 9 (.take 10 (.take 11 (.take 12 (.take 13 (.take 14 (.take 15 (.take 16 (.take 17 (.take 18 (.take 19 (.take 20 (.take 21 (.take 22 .done))))))))))))))))) .stop) .stop)))) .stop) hm (by kernel_rfl) (by kernel_rfl) ?_
  simp (config := { dsimp := false, maxSteps := 10000000 }) (disch := omega) only [go_sem, reduceIte, Nat.reduceEqDiff, reduceCtorEq, Nat.reduceAdd, Nat.reduceMul, Int.reduceToNat, Int.reduceLE, Int.reduceLT, Int.reduceEq, Int.reduceNe, Nat.reduceLeDiff, Int.reducePow, Nat.reducePow, Nat.reduceLT, Nat.reduceSub, Nat.reduceMod, Nat.reduceDiv, slot_neg, slot_pos, T.ag_24, T.ag_31, T.gf_15, T.gf_18, T.gf_19, T.gf_20, T.gf_21, T.ib_25, T.ib_3, T.ii_28, T.ii_9, T.ip_25, T.ip_3, T.s8_28, T.s8_9, T.sl_28, T.sl_9, T.st_28, T.st_9, T.un_28, T.un_9, T.zo_24, T.zo_31, r5, r6, r7, r8, r9, r10, r11, r12, g5, g9]
  refine CallsH.pure _ rfl (heads_ph _) ?_
  simp (config := { dsimp := false, maxSteps := 10000000 }) (disch := omega) only [go_sem, reduceIte, Nat.reduceEqDiff, reduceCtorEq, Nat.reduceAdd, Nat.reduceMul, Int.reduceToNat, Int.reduceLE, Int.reduceLT, Int.reduceEq, Int.reduceNe, Nat.reduceLeDiff, Int.reducePow, Nat.reducePow, Nat.reduceLT, Nat.reduceSub, Nat.reduceMod, Nat.reduceDiv, slot_neg, slot_pos, T.ag_24, T.ag_31, T.gf_15, T.gf_18, T.gf_19, T.gf_20, T.gf_21, T.ib_25, T.ib_3, T.ii_28, T.ii_9, T.ip_25, T.ip_3, T.s8_28, T.s8_9, T.sl_28, T.sl_9, T.st_28, T.st_9, T.un_28, T.un_9, T.zo_24, T.zo_31, r5, r6, r7, r8, r9, r10, r11, r12, g5, g9, hd9]
  refine ⟨by omega, n9, (from_ph (H.mask []) k v d s t len 0 0 false lst2 sl2.toX.one sl2.toX.cells).mono fun w h2 ⟨hw, hk2⟩ => ?_⟩
  subst hw
  simp (config := { dsimp := false, maxSteps := 10000000 }) (disch := omega) only [go_sem, reduceIte, Nat.reduceEqDiff, reduceCtorEq, Nat.reduceAdd, Nat.reduceMul, Int.reduceToNat, Int.reduceLE, Int.reduceLT, Int.reduceEq, Int.reduceNe, Nat.reduceLeDiff, Int.reducePow, Nat.reducePow, Nat.reduceLT, Nat.reduceSub, Nat.reduceMod, Nat.reduceDiv, slot_neg, slot_pos, T.ag_24, T.ag_31, T.gf_15, T.gf_18, T.gf_19, T.gf_20, T.gf_21, T.ib_25, T.ib_3, T.ii_28, T.ii_9, T.ip_25, T.ip_3, T.s8_28, T.s8_9, T.sl_28, T.sl_9, T.st_28, T.st_9, T.un_28, T.un_9, T.zo_24, T.zo_31, r5, r6, r7, r8, r9, r10, r11, r12, g5, g9, hd9]
  have mk : ∀ {b : Nat} {v : Value}, SlN H h.next b v (getP l x1).list → SlX h2 v (getP l x1).list ∧ ∀ a n m, v = .slice (some a) n m → a.block < h2.next := fun {b v} hs => by
    rcases hs with ⟨x, y⟩ | ⟨i, q, a1, a2, a3, a4, a5⟩
    · exact ⟨.inl ⟨x, y⟩, fun a n m e => by rw [x] at e; cases e⟩
    · refine ⟨.inr ⟨i, 0, ic (getP l x1).list, q.lk, a4, ?_, by rw [List.drop_zero, List.take_of_length_le (by simp [ic])], by simp [ic]⟩, fun a n m e => by rw [a4] at e; cases e; exact Nat.lt_of_lt_of_le a3 hk2.1⟩
      rw [hk2.2 i a3, get_mask, if_neg (by simp), a5, lock_live', lock_cells]
  refine (Same_ph h2 k v d s t len 0 0 false lst1 lst2 (getP l x1).list (mk sl1).1 (mk sl2).1 (by omega) (mk sl1).2 (mk sl2).2).mono fun w h3 hw => ?_
  subst hw
  simp (config := { dsimp := false, maxSteps := 10000000 }) (disch := omega) only [go_sem, reduceIte, Nat.reduceEqDiff, reduceCtorEq, Nat.reduceAdd, Nat.reduceMul, Int.reduceToNat, Int.reduceLE, Int.reduceLT, Int.reduceEq, Int.reduceNe, Nat.reduceLeDiff, Int.reducePow, Nat.reducePow, Nat.reduceLT, Nat.reduceSub, Nat.reduceMod, Nat.reduceDiv, slot_neg, slot_pos, T.ag_24, T.ag_31, T.gf_15, T.gf_18, T.gf_19, T.gf_20, T.gf_21, T.ib_25, T.ib_3, T.ii_28, T.ii_9, T.ip_25, T.ip_3, T.s8_28, T.s8_9, T.sl_28, T.sl_9, T.st_28, T.st_9, T.un_28, T.un_9, T.zo_24, T.zo_31, r5, r6, r7, r8, r9, r10, r11, r12, g5, g9, hd9]
end Ph
