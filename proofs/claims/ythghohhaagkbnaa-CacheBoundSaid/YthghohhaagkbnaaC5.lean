import Derived.Test.YthghohhaagkbnaaC4
set_option maxRecDepth 100000
set_option maxHeartbeats 4000000
set_option linter.unusedSimpArgs false
set_option linter.unusedVariables false
namespace Ph
open Go Go.Proofs
attribute [local irreducible] Value.cells
attribute [local go_sem ↓] y_move y_assign y_pick y_nil y_bin y_un y_fa y_field y_ext y_ia y_ix y_slice y_build y_mf y_rg y_nx y_en y_mm y_lk y_mu y_del y_load y_len y_min y_max y_conv y_bs y_mk y_alloc y_box y_store y_clear y_app y_callf y_callt s_move s_assign s_pick s_nil s_bin s_un s_fa s_field s_ext s_ia s_ix s_slice s_conv s_build s_bs s_mf s_alloc s_box s_rg s_nx s_en s_mm s_lk s_mu s_del s_load s_store s_len s_clear s_min s_max s_app s_call q_call q_move q_assign q_pick q_nil q_bin q_un q_fa q_field q_ext q_ia q_ix q_slice q_conv q_build q_mf q_lk q_load q_len q_min q_max l_nil l_move l_assign l_pick l_nilc l_bin l_un l_fa l_field l_ext l_ia l_ix l_slice l_conv l_build l_mf l_lk l_load l_len l_min l_max l_call put_eq putN_eq o_nil o_plain o_gate v_nil v_plain v_gate vc_skip vc_region vc_seq vc_cond vc_block vc_loop vc_rf vc_exit vc_ret blk_normal blk_ret blk_exit on_normal on_ret on_exit vc_drawn draw_q s_mk l_bs l_mk l_rg l_nx l_en l_mm l_mu l_del l_alloc l_box l_store l_app l_clear pl_done pl_takeS pl_take pl_alt pl_stop one_plain one_gate
attribute [local go_sem] clear_nil clear_sl onAgg_a onTuple_t onFn_f onFn_y onFunc_f c_int c_nil c_sl c_str sl_sl sl_nil sl_str ix_str ix_agg n_nil n_sl n_str app_eq k_nil k_sl len_sl len_str len_mn len_m onMap_m onIter_i rg_n rg_m nx_p en_p lk_n lk_m up_m setM_n setM_s del_n del_m kt_s kt_i upd_some upd_none ev_tmp ev_const ev_func rd_some gdst_eq otmp_t otmp_c get_put get_alloc next_put next_alloc get_app next_app init_a resV1 resV2 onPtr_ptr onBool_b onInt_i onSlice_s onSome_s onCells_c lett_eq gate_tt gate_tf gate_ff gate_ft gate_dt gate_df also_eq bin un minmax io_none io_some bo_none bo_some partOf List.getElem?_cons_zero List.getElem?_cons_succ List.getElem?_toArray Option.map_some Option.map_none Option.bind_some ne_eq not_true_eq_false not_false_eq_true false_implies true_implies and_true true_and and_self Bool.false_eq_true Nat.zero_add Nat.add_zero List.size_toArray List.length_cons List.length_nil List.map_toArray List.map_cons List.map_nil Array.getD_eq_getD_getElem? Option.getD_some Bool.not_true Bool.not_false Bool.not_eq_true Option.isNone_some Option.isNone_none List.append_toArray List.append_nil List.nil_append List.cons_append decide_true decide_false in_nil in_cons Bool.and_false Bool.and_true Bool.or_false Bool.true_or Bool.false_or get_mask next_mask get_unmask next_unmask ac_move ac_assign ac_pick ac_nil ac_bin ac_un ac_fa ac_field ac_ext ac_ia ac_ix ac_slice ac_build ac_mf ac_call ac_len ac_lk ac_min ac_max accM_m accM_n accM_s accM_t ac_load ac_conv accP_p accS_s accS_n accS_i accS_t fixed_ro fixed_lock fixed_own get_ro next_ro lock_live' lock_cells List.mem_cons List.not_mem_nil or_false false_or or_true true_or and_false false_and IntKind.bits Int.natCast_zero Int.natCast_one size_str data_str list_str mk_str ext_str app_str bytes_str w_byte w_byteu Int.toNat_natCast Int.toNat_zero Int.toNat_one Nat.sub_zero ge_iff_le gt_iff_lt Nat.le_refl Int.le_refl List.drop_zero Int.ofNat_eq_natCast Int.natCast_nonneg Int.sub_zero oc_int oc_bool oc_str oc_ptr oc_sl oc_map oc_func List.set_cons_zero List.set_cons_succ Nat.mul_one List.all_cons List.all_nil Bool.and_self res_nil res_tmp res_cell tup_one tup_two tup_nil fill_nil repl_zero cells_agg List.append_eq List.toList_toArray Nat.zero_mul Nat.one_mul repl_one repl_two onSome_build fill_cons onSome_lit splice_eq cells_int cells_bool cells_str cells_ptr cells_sl cells_map cells_func loadK_n loadK_s load_k storeK_n storeK_s store_k all_arr List.take_zero List.take_succ_cons List.drop_succ_cons List.take_nil List.drop_nil lk_own lk_ro lk_lock lk_lk fixed_lk gate_nt gate_nf gate3_b gate3_u undef Bool.true_and Bool.false_and nx_l nx_r nx_lt put_put resV0
structure Ca where
  l : List Th
  most : Int
  now : Int
  puts : Int
def caC (id : Nat) (c : Ca) : List Value := [.map (some id), .int .i64 c.most, .int .i64 c.now, .int .i64 c.puts]
structure CaR (kd : Value → Prop) (h : Heap) (p id : Nat) (c : Ca) : Prop where
  lt : p < h.next
  ne : p ≠ id
  at_ : h.get p = .live (.cells (caC id c) .own)
  map : ∃ cl, MapT kd h id c.l cl
def farC : Int := 1099511627776
def nowC (c : Ca) (at_ : Int) : Int := max c.now (min at_ farC)
def timeC (c : Ca) (at_ : Int) : Ca := { c with now := nowC c at_, l := c.l.filter fun x => !decide (x.goes ≤ nowC c at_) }
theorem CaR.upd {kd : Value → Prop} {h h' : Heap} {p id : Nat} {c : Ca} {F : List Nat} (hC : CaR kd h p id c) (hu : Upd h h' F) (hp : p ∉ F) (hi : id ∉ F) : CaR kd h' p id c :=
  ⟨Nat.lt_of_lt_of_le hC.lt hu.1, hC.ne, (hu.2 p hC.lt hp).trans hC.at_, hC.map.imp fun cl hM => hM.upd hu hi⟩
structure CaOk (c : Ca) : Prop where
  most : 1 ≤ c.most
  now : 0 ≤ c.now ∧ c.now ≤ farC
  puts : 0 ≤ c.puts
  le : ∀ x ∈ c.l, x.put ≤ c.puts
  asc : c.l.Pairwise fun a b => a.put < b.put
  len : (c.l.length : Int) ≤ c.most ∧ c.most ≤ 10000
def keq (k a : Value) : Bool := match sameK k a with | some b => b | none => false
def without (c : Ca) (k : Value) : Ca := { c with l := c.l.filter fun x => !keq k x.key }
theorem keq_no {kd : Value → Prop} (hk : OneKind kd) {a b : Value} (ha : kd a) (hb : kd b) (h : a ≠ b) : keq a b = false := by
  unfold keq; rw [(hk a b ha hb).2 h]
theorem keq_yes {kd : Value → Prop} (hk : OneKind kd) {a : Value} (ha : kd a) : keq a a = true := by
  unfold keq; rw [(hk a a ha ha).1 rfl]
theorem key_inj {l : List Th} (hb : (l.map (·.key)).Nodup) {x y : Th} (hx : x ∈ l) (hy : y ∈ l) (e : x.key = y.key) : x = y := by
  induction l with
  | nil => simp at hx
  | cons z l ih =>
    rw [List.map_cons, List.nodup_cons] at hb
    rcases List.mem_cons.1 hx with ex | hx' <;> rcases List.mem_cons.1 hy with ey | hy'
    · rw [ex, ey]
    · exact absurd (List.mem_map.2 ⟨y, hy', by rw [← e, ex]⟩) hb.1
    · exact absurd (List.mem_map.2 ⟨x, hx', by rw [e, ey]⟩) hb.1
    · exact ih hb.2 hx' hy'
theorem erase_key {kd : Value → Prop} (hk : OneKind kd) {h : Heap} {id : Nat} {l : List Th} {cl : Nat} (hM : MapT kd h id l cl) {i : Nat} {x : Th} (hx : l[i]? = some x) : l.eraseIdx i = l.filter fun y => !keq x.key y.key := by
  have hxl := List.mem_of_getElem? hx
  rw [erase_filter hM.born hx]
  refine List.filter_congr fun y hy => ?_
  by_cases e : y = x
  · subst e; rw [keq_yes hk (hM.keys _ hxl)]; simp
  · have h1 : keq x.key y.key = false := keq_no hk (hM.keys x hxl) (hM.keys y hy) fun e2 => e (key_inj hM.one hy hxl e2.symm)
    have h2 : (y.born == x.born) = false := by simp; exact fun e2 => e (born_inj hM.born hy hxl e2)
    rw [h1, h2]
theorem CaR.turn {kd : Value → Prop} {h : Heap} {p id : Nat} {c : Ca} (hC : CaR kd h p id c) {l' : List Th} (hs : l'.Sublist c.l) {cl : Nat} (hm : h.get id = .live (.map (ents c.l) cl .own)) : CaR kd (h.put id (.live (.map (ents l') cl .own))) p id { c with l := l' } := by
  obtain ⟨cl', hM⟩ := hC.map
  have e : cl' = cl := by
    have := hM.at_; rw [hm] at this; injection this with this; injection this with _ this; exact this.symm
  subst e
  exact ⟨by rw [next_put]; exact hC.lt, hC.ne, by rw [get_put, if_neg hC.ne]; exact hC.at_, cl', hM.sub hs⟩
theorem CaOk.time {c : Ca} (h : CaOk c) (at_ : Int) : CaOk (timeC c at_) :=
  ⟨h.most, by have := h.now; unfold timeC nowC farC at *; simp only; omega, h.puts, fun x hx => h.le x (List.mem_filter.1 hx).1, h.asc.sublist (List.filter_sublist ..), by have h1 := List.length_filter_le (fun x => !decide (x.goes ≤ nowC c at_)) c.l; have h2 := h.len; unfold timeC; simp only; omega⟩
theorem CaOk.without {c : Ca} (h : CaOk c) (k : Value) : CaOk (without c k) :=
  ⟨h.most, h.now, h.puts, fun x hx => h.le x (List.mem_filter.1 hx).1, h.asc.sublist (List.filter_sublist ..), by have h1 := List.length_filter_le (fun x => !keq k x.key) c.l; have h2 := h.len; unfold Ph.without; simp only; omega⟩
instance (x y : Th) : Decidable (leT x y) := inferInstanceAs (Decidable (_ ∨ _))
def dropMin (l : List Th) : List Th := l.filter fun x => !decide (∀ y ∈ l, leT x y)
def putS (c : Ca) (k v : Value) (keep at_ : Int) (b : Nat) (one : k.oneCell' = true ∧ v.oneCell' = true) : Ca :=
  let c2 := without (timeC c at_) k
  if keep = 0 then c2 else
    let l3 := if c2.most ≤ c2.l.length then dropMin c2.l else c2.l
    { c2 with l := l3 ++ [⟨k, v, c2.now + keep, c2.puts + 1, b, one⟩], puts := c2.puts + 1 }
theorem MapT.add {kd : Value → Prop} {h : Heap} {id : Nat} {l : List Th} {cl : Nat} (hM : MapT kd h id l cl) {k : Value} (hk : kd k) (hn : ∀ x ∈ l, x.key ≠ k) (z : Th) (e1 : z.key = k) (e2 : z.born = cl) : MapT kd (h.put id (.live (.map (ents (l ++ [z])) (cl + 1) .own))) id (l ++ [z]) (cl + 1) := by
  refine ⟨by rw [next_put]; exact hM.lt, by rw [get_put, if_pos rfl], fun x hx => ?_, ?_, ?_, fun x hx => ?_⟩
  · rcases List.mem_append.1 hx with h1 | h1
    · exact hM.keys x h1
    · rw [List.mem_singleton.1 h1, e1]; exact hk
  · rw [List.map_append, List.nodup_append]
    refine ⟨hM.one, by simp, fun a ha b hb => ?_⟩
    obtain ⟨x, hx, rfl⟩ := List.mem_map.1 ha
    simp at hb
    rw [hb, e1]; exact hn x hx
  · rw [List.pairwise_append]
    exact ⟨hM.born, by simp, fun a ha b hb => by rw [List.mem_singleton.1 hb, e2]; exact hM.clock a ha⟩
  · rcases List.mem_append.1 hx with h1 | h1
    · exact Nat.lt_succ_of_lt (hM.clock x h1)
    · rw [List.mem_singleton.1 h1, e2]; exact Nat.lt_succ_self _
theorem put_inj {l : List Th} (hb : l.Pairwise fun a b => a.put < b.put) {x y : Th} (hx : x ∈ l) (hy : y ∈ l) (e : x.put = y.put) : x = y := by
  induction l with
  | nil => simp at hx
  | cons z l ih =>
    rw [List.pairwise_cons] at hb
    rcases List.mem_cons.1 hx with ex | hx' <;> rcases List.mem_cons.1 hy with ey | hy'
    · rw [ex, ey]
    · have := hb.1 y hy'; subst ex; omega
    · have := hb.1 x hx'; subst ey; omega
    · exact ih hb.2 hx' hy'
theorem dropMin_eq {kd : Value → Prop} (hk : OneKind kd) {h : Heap} {id : Nat} {l : List Th} {cl : Nat} (hM : MapT kd h id l cl) (ha : l.Pairwise fun a b => a.put < b.put) {x : Th} (hx : x ∈ l) (hmin : ∀ y ∈ l, leT x y) : (l.filter fun y => !keq x.key y.key) = dropMin l := by
  unfold dropMin
  refine List.filter_congr fun y hy => ?_
  by_cases e : y = x
  · subst e
    rw [keq_yes hk (hM.keys _ hx), decide_eq_true hmin]
  · rw [keq_no hk (hM.keys x hx) (hM.keys y hy) fun e2 => e (key_inj hM.one hy hx e2.symm), decide_eq_false]
    intro h2
    have h3 := h2 x hx
    have h4 := hmin y hy
    refine e (put_inj ha hy hx ?_)
    unfold leT at h3 h4; omega
theorem minT : ∀ {l : List Th}, l ≠ [] → ∃ x ∈ l, ∀ y ∈ l, leT x y
  | [x], _ => ⟨x, by simp, fun y hy => by simp at hy; subst hy; exact .inr ⟨rfl, Int.le_refl _⟩⟩
  | x :: z :: l, _ => by
    obtain ⟨m, hm, hmin⟩ := minT (l := z :: l) (by simp)
    by_cases hle : leT x m
    · refine ⟨x, by simp, fun y hy => ?_⟩
      rcases List.mem_cons.1 hy with rfl | hy
      · exact .inr ⟨rfl, Int.le_refl _⟩
      · have := hmin y hy; unfold leT at *; omega
    · refine ⟨m, by simp [hm], fun y hy => ?_⟩
      rcases List.mem_cons.1 hy with rfl | hy
      · unfold leT at *; omega
      · exact hmin y hy
theorem dropMin_len {l : List Th} (h : l ≠ []) : (dropMin l).length < l.length := by
  obtain ⟨x, hx, hm⟩ := minT h
  refine List.length_filter_lt_length_iff_exists.2 ⟨x, hx, ?_⟩
  rw [decide_eq_true hm]; simp
theorem CaOk.put {c : Ca} (h : CaOk c) {k v : Value} {keep at_ : Int} {b : Nat} {one : k.oneCell' = true ∧ v.oneCell' = true} : CaOk (putS c k v keep at_ b one) := by
  have h2 : CaOk (Ph.without (timeC c at_) k) := (h.time at_).without k
  unfold putS
  generalize Ph.without (timeC c at_) k = c2 at *
  dsimp only
  split
  · exact h2
  · have hsub : (if c2.most ≤ (c2.l.length : Int) then dropMin c2.l else c2.l).Sublist c2.l := by
      split
      · exact List.filter_sublist ..
      · exact List.Sublist.refl _
    have hlen : ((if c2.most ≤ (c2.l.length : Int) then dropMin c2.l else c2.l).length : Int) + 1 ≤ c2.most := by
      have h3 := h2.len
      have h4 := h2.most
      split
      · have := dropMin_len (l := c2.l) (fun e => by have h5 : (c2.l.length : Int) = 0 := by rw [e]; rfl
                                                     omega)
        omega
      · omega
    generalize (if c2.most ≤ (c2.l.length : Int) then dropMin c2.l else c2.l) = l3 at *
    refine ⟨h2.most, h2.now, by have := h2.puts; simp only; omega, fun x hx => ?_, ?_, ?_⟩
    · rcases List.mem_append.1 hx with h1 | h1
      · have := h2.le x (hsub.subset h1); simp only; omega
      · rw [List.mem_singleton.1 h1]; exact Int.le_refl _
    · rw [List.pairwise_append]
      refine ⟨h2.asc.sublist hsub, by simp, fun a ha b hb => ?_⟩
      rw [List.mem_singleton.1 hb]
      have := h2.le a (hsub.subset ha); simp only; omega
    · have := h2.len; simp only [List.length_append, List.length_singleton]; omega
theorem timeFS_ph (h : Heap) (k : Value) (x : Th) (q p id : Nat) (c : Ca) (o o' : Own) (hq : h.get q = .live (.cells [.pointer (some ⟨p, 0, none⟩)] o)) (hp : h.get p = .live (.cells (caC id c) o')) (hqn : q < h.next) (hpn : p < h.next) :
    @CallsH Try.prog 86 #[k, x.agg, .pointer (some ⟨q, 0, none⟩)] h ⟨fun u _ => u = .bool (decide (x.goes ≤ c.now))⟩ := by
  have hxc : x.agg.cells = #[x.key, x.val, .int .i64 x.goes, .int .i64 x.put] := cells_agg
  have hx1 := x.one
  have n1 : (q = h.next) = False := eq_false (by omega)
  have n2 : (p = h.next) = False := eq_false (by omega)
  (refine calls_of_vc [] hm Try.func86 rfl (ts := [5]) rfl (by kernel_rfl) (by simp) ?_; simp (config := { dsimp := false, maxSteps := 10000000 }) (disch := omega) only [go_sem, reduceIte, Nat.reduceEqDiff, reduceCtorEq, Nat.reduceAdd, Nat.reduceMul, Int.reduceToNat, Int.reduceLE, Int.reduceLT, Int.reduceEq, Int.reduceNe, Nat.reduceLeDiff, Int.reducePow, Nat.reducePow, Nat.reduceLT, Nat.reduceSub, Nat.reduceMod, Nat.reduceDiv, slot_neg, slot_pos, T.ag_3, T.ag_66, T.fo_134_2, T.fo_138_2, T.ib_3, T.ip_3, init_a, hxc, hx1.1, hx1.2, hq, hp, n1, n2, caC])
theorem timeS_ph (h : Heap) (p id : Nat) (c : Ca) (at_ : Int) (hC : CaR isStrV h p id c) :
    @CallsH Try.prog 60 #[.pointer (some ⟨p, 0, none⟩), .int .i64 at_] h ⟨fun u H => CaR isStrV H p id (timeC c at_) ∧ Upd h H [p, id]⟩ := by
  obtain ⟨hpn, hpi, hp, cl, hM⟩ := hC
  have hidn := hM.lt
  have n1 : (p = h.next) = False := eq_false (by omega)
  (refine calls_of_vc [] hm Try.func60 rfl (ts := []) rfl (by kernel_rfl) (by simp) ?_; simp (config := { dsimp := false, maxSteps := 10000000 }) (disch := omega) only [go_sem, reduceIte, Nat.reduceEqDiff, reduceCtorEq, Nat.reduceAdd, Nat.reduceMul, Int.reduceToNat, Int.reduceLE, Int.reduceLT, Int.reduceEq, Int.reduceNe, Nat.reduceLeDiff, Int.reducePow, Nat.reducePow, Nat.reduceLT, Nat.reduceSub, Nat.reduceMod, Nat.reduceDiv, slot_neg, slot_pos, T.ag_136, T.ag_3, T.ag_66, T.fo_138_0, T.fo_138_2, T.gf_85, init_a, hp, n1, caC])
  refine draw_plan0 (.takeS 0 (.takeS 1 (.takeS 2 (.takeS 3 (.takeS 4 (.takeS 5 (.takeS 6 (.takeS 7 (.takeS 8 (.takeS 9 (.alt 10 .done .stop))))))))))) hm (by kernel_rfl) (by kernel_rfl) ?_
  simp (config := { dsimp := false, maxSteps := 10000000 }) (disch := omega) only [go_sem, reduceIte, Nat.reduceEqDiff, reduceCtorEq, Nat.reduceAdd, Nat.reduceMul, Int.reduceToNat, Int.reduceLE, Int.reduceLT, Int.reduceEq, Int.reduceNe, Nat.reduceLeDiff, Int.reducePow, Nat.reducePow, Nat.reduceLT, Nat.reduceSub, Nat.reduceMod, Nat.reduceDiv, slot_neg, slot_pos, T.ag_136, T.ag_3, T.ag_66, T.fo_138_0, T.fo_138_2, T.gf_85, hp, n1, caC]
  have e : (if c.now < if 1099511627776 < at_ then 1099511627776 else at_ then if 1099511627776 < at_ then 1099511627776 else at_ else c.now) = nowC c at_ := by
    unfold nowC farC; omega
  rw [e]
  obtain ⟨H1, hH1⟩ : ∃ H1, (h.alloc (.cells [.pointer (some ⟨p, 0, none⟩)] .own)).put p (.live (.cells (caC id { c with now := nowC c at_ }) .own)) = H1 := ⟨_, rfl⟩
  have g0 : H1.get h.next = .live (.cells [.pointer (some ⟨p, 0, none⟩)] .own) := by rw [← hH1, get_put, if_neg (by omega), get_alloc, if_pos rfl]
  have g1 : H1.get p = .live (.cells (caC id { c with now := nowC c at_ }) .own) := by rw [← hH1, get_put, if_pos rfl]
  have hU : Upd h H1 [p] := by rw [← hH1]; exact (Upd.alloc _ _ _).put (.inl (by simp))
  have hn : H1.next = h.next + 1 := by rw [← hH1]; rfl
  have hM1 : MapT isStrV H1 id c.l cl := hM.upd hU (by simp; omega)
  unfold caC at hH1
  dsimp only at hH1
  rw [hH1]
  clear hH1
  refine (DeleteMS_ph kind_str (fun k hk => by obtain ⟨s, rfl⟩ := hk; rfl) H1 id c.l cl _ _ (fun x => decide (x.goes ≤ nowC c at_)) hM1 (by kernel_rfl) (fun x hx H hu => ?_)).mono fun u H ⟨h1, h2⟩ => ?_
  · refine timeFS_ph H.ro x.key x h.next p id { c with now := nowC c at_ } .lock .lock ?_ ?_ ?_ ?_
    · rw [get_ro, hu.2 _ (by omega) (by simp; omega), g0]; rfl
    · rw [get_ro, hu.2 _ (by omega) (by simp; omega), g1]; rfl
    · have := hu.1; show h.next < H.next; omega
    · have := hu.1; show p < H.next; omega
  · simp (config := { dsimp := false, maxSteps := 10000000 }) (disch := omega) only [go_sem, reduceIte, Nat.reduceEqDiff, reduceCtorEq, Nat.reduceAdd, Nat.reduceMul, Int.reduceToNat, Int.reduceLE, Int.reduceLT, Int.reduceEq, Int.reduceNe, Nat.reduceLeDiff, Int.reducePow, Nat.reducePow, Nat.reduceLT, Nat.reduceSub, Nat.reduceMod, Nat.reduceDiv, slot_neg, slot_pos, T.ag_136, T.ag_3, T.ag_66, T.fo_138_0, T.fo_138_2, T.gf_85]
    have h3 := h2.1
    exact ⟨⟨by omega, hpi, (h2.2 p (by omega) (by simp; omega)).trans g1, cl, h1⟩, (hU.mono (by simp)).trans (h2.mono (G := [p, id]) (by simp)) (by simp)⟩
/-- New -/
theorem NewS_ph (h : Heap) (most : Int) (hm1 : 1 ≤ most) (hm2 : most ≤ 10000) :
    @CallsH Try.prog 34 #[.int .i64 most] h ⟨fun u H => ∃ p id, h.next ≤ p ∧ h.next ≤ id ∧ u = .tuple #[.pointer (some ⟨p, 0, none⟩), .int .i64 0] ∧ CaR isStrV H p id ⟨[], most, 0, 0⟩ ∧ Upd h H []⟩ := by
  have c1 : (most < 1) = False := eq_false (by omega)
  have c2 : (10000 < most) = False := eq_false (by omega)
  (refine calls_of_vc [] hm Try.func34 rfl (ts := [2, 3]) rfl (by kernel_rfl) (by simp) ?_; simp (config := { dsimp := false, maxSteps := 10000000 }) (disch := omega) only [go_sem, reduceIte, Nat.reduceEqDiff, reduceCtorEq, Nat.reduceAdd, Nat.reduceMul, Int.reduceToNat, Int.reduceLE, Int.reduceLT, Int.reduceEq, Int.reduceNe, Nat.reduceLeDiff, Int.reducePow, Nat.reducePow, Nat.reduceLT, Nat.reduceSub, Nat.reduceMod, Nat.reduceDiv, slot_neg, slot_pos, T.ib_3, T.ip_3, T.pl_138, T.zo_138, init_a, c1, c2])
  refine ⟨_, h.next, ?_, Nat.le_refl _, rfl, ⟨?_, ?_, ?_, 0, ?_, ?_, ?_, ?_, ?_, ?_⟩, (Upd.alloc _ _ _).allocs⟩
  · exact Nat.le_succ _
  · exact Nat.lt_succ_self _
  · exact Nat.succ_ne_self _
  · rw [get_alloc]; exact if_pos rfl
  · show h.next < h.next + 1 + 1; omega
  · rw [get_alloc, if_neg (by simp only [next_alloc]; omega), get_alloc, if_pos rfl]; rfl
  · simp
  · simp
  · simp
  · simp
theorem CountS_ph (h : Heap) (p id : Nat) (c : Ca) (at_ : Int) (hC : CaR isStrV h p id c) (hll : c.l.length ≤ 10000) :
    @CallsH Try.prog 31 #[.pointer (some ⟨p, 0, none⟩), .int .i64 at_] h ⟨fun u H => u = .int .i64 (timeC c at_).l.length ∧ CaR isStrV H p id (timeC c at_) ∧ Upd h H [p, id]⟩ := by
  (refine calls_of_vc [] hm Try.func31 rfl (ts := [4]) rfl (by kernel_rfl) (by simp) ?_; simp (config := { dsimp := false, maxSteps := 10000000 }) (disch := omega) only [go_sem, reduceIte, Nat.reduceEqDiff, reduceCtorEq, Nat.reduceAdd, Nat.reduceMul, Int.reduceToNat, Int.reduceLE, Int.reduceLT, Int.reduceEq, Int.reduceNe, Nat.reduceLeDiff, Int.reducePow, Nat.reducePow, Nat.reduceLT, Nat.reduceSub, Nat.reduceMod, Nat.reduceDiv, slot_neg, slot_pos, T.ag_136, T.fo_138_0, T.gf_60, T.ib_66, T.ii_136, T.ii_9, T.ip_66, T.mt_136, T.s8_136, T.s8_9, T.sl_136, T.sl_9, T.st_136, T.st_9, T.un_136, T.un_9, T.zv_134, init_a])
  refine (timeS_ph h p id c at_ hC).mono fun u H ⟨hC1, hU⟩ => ?_
  obtain ⟨hpn, hpi, hp, cl, hM⟩ := hC1
  have hlen : (timeC c at_).l.length ≤ 10000 := Nat.le_trans (List.length_filter_le _ _) hll
  simp (config := { dsimp := false, maxSteps := 10000000 }) (disch := omega) only [go_sem, reduceIte, Nat.reduceEqDiff, reduceCtorEq, Nat.reduceAdd, Nat.reduceMul, Int.reduceToNat, Int.reduceLE, Int.reduceLT, Int.reduceEq, Int.reduceNe, Nat.reduceLeDiff, Int.reducePow, Nat.reducePow, Nat.reduceLT, Nat.reduceSub, Nat.reduceMod, Nat.reduceDiv, slot_neg, slot_pos, T.ag_136, T.fo_138_0, T.gf_60, T.ib_66, T.ii_136, T.ii_9, T.ip_66, T.mt_136, T.s8_136, T.s8_9, T.sl_136, T.sl_9, T.st_136, T.st_9, T.un_136, T.un_9, T.zv_134, hp, caC, hM.at_]
  exact ⟨by unfold ents; rw [List.length_map], ⟨hpn, hpi, hp, cl, hM⟩, hU⟩
theorem GetS_ph (h : Heap) (p id : Nat) (c : Ca) (at_ : Int) (k : Value) (hk : isStrV k) (hC : CaR isStrV h p id c) :
    @CallsH Try.prog 29 #[.pointer (some ⟨p, 0, none⟩), k, .int .i64 at_] h ⟨fun u H => CaR isStrV H p id (timeC c at_) ∧ Upd h H [p, id] ∧ ((∃ x ∈ (timeC c at_).l, x.key = k ∧ u = .tuple #[x.val, .int .i64 (IntKind.i64.wrap (x.goes - (timeC c at_).now)), .bool true]) ∨ ((∀ x ∈ (timeC c at_).l, x.key ≠ k) ∧ u = .tuple #[.int .i64 0, .int .i64 0, .bool false]))⟩ := by
  have hkt : keyTy Try.prog 9 k = true := by obtain ⟨s, rfl⟩ := hk; rfl
  have hk1 : k.oneCell' = true := by obtain ⟨s, rfl⟩ := hk; rfl
  (refine calls_of_vc [] hm Try.func29 rfl (ts := [6, 7, 8]) rfl (by kernel_rfl) (by simp) ?_; simp (config := { dsimp := false, maxSteps := 10000000 }) (disch := omega) only [go_sem, reduceIte, Nat.reduceEqDiff, reduceCtorEq, Nat.reduceAdd, Nat.reduceMul, Int.reduceToNat, Int.reduceLE, Int.reduceLT, Int.reduceEq, Int.reduceNe, Nat.reduceLeDiff, Int.reducePow, Nat.reducePow, Nat.reduceLT, Nat.reduceSub, Nat.reduceMod, Nat.reduceDiv, slot_neg, slot_pos, T.ag_134, T.ag_136, T.ag_3, T.fo_134_1, T.fo_134_2, T.fo_138_0, T.fo_138_2, T.gf_60, T.ib_3, T.ib_66, T.ii_9, T.ip_3, T.ip_66, T.mt_136, T.s8_9, T.sl_9, T.st_9, T.un_9, T.zo_134, T.zv_134, init_a])
  refine (timeS_ph h p id c at_ hC).mono fun u H ⟨hC1, hU⟩ => ?_
  obtain ⟨hpn, hpi, hp, cl, hM⟩ := hC1
  have ua : Upd H (H.alloc (.cells [.string (str []), .int .i64 0, .int .i64 0, .int .i64 0] .own)) [] := Upd.alloc _ _ _
  by_cases hex : ∃ x ∈ (timeC c at_).l, x.key = k
  · obtain ⟨x, hx, rfl⟩ := hex
    obtain ⟨i, hi⟩ := List.getElem?_of_mem hx
    have hf := find_some kind_str _ 0 i x hM.keys hM.one hi
    have hxc : x.agg.cells = #[x.key, x.val, .int .i64 x.goes, .int .i64 x.put] := cells_agg
    have hx1 := x.one
    have n1 : (p = H.next) = False := eq_false (by omega)
    simp (config := { dsimp := false, maxSteps := 10000000 }) (disch := omega) only [go_sem, reduceIte, Nat.reduceEqDiff, reduceCtorEq, Nat.reduceAdd, Nat.reduceMul, Int.reduceToNat, Int.reduceLE, Int.reduceLT, Int.reduceEq, Int.reduceNe, Nat.reduceLeDiff, Int.reducePow, Nat.reducePow, Nat.reduceLT, Nat.reduceSub, Nat.reduceMod, Nat.reduceDiv, slot_neg, slot_pos, T.ag_134, T.ag_136, T.ag_3, T.fo_134_1, T.fo_134_2, T.fo_138_0, T.fo_138_2, T.gf_60, T.ib_3, T.ib_66, T.ii_9, T.ip_3, T.ip_66, T.mt_136, T.s8_9, T.sl_9, T.st_9, T.un_9, T.zo_134, T.zv_134, hp, caC, hM.at_, hf, hxc, hx1.1, hx1.2, n1]
    refine ⟨hkt, CaR.upd ⟨hpn, hpi, hp, cl, hM⟩ (ua.put (.inr (Nat.le_refl _))) (by simp) (by simp), hU.trans (ua.put (F := []) (.inr (Nat.le_refl _))) (by simp), .inl ⟨x, hx, rfl, rfl⟩⟩
  · have hex' : ∀ x ∈ (timeC c at_).l, x.key ≠ k := fun x hx e => hex ⟨x, hx, e⟩
    have hf := find_none kind_str hk _ 0 hM.keys hex'
    simp (config := { dsimp := false, maxSteps := 10000000 }) (disch := omega) only [go_sem, reduceIte, Nat.reduceEqDiff, reduceCtorEq, Nat.reduceAdd, Nat.reduceMul, Int.reduceToNat, Int.reduceLE, Int.reduceLT, Int.reduceEq, Int.reduceNe, Nat.reduceLeDiff, Int.reducePow, Nat.reducePow, Nat.reduceLT, Nat.reduceSub, Nat.reduceMod, Nat.reduceDiv, slot_neg, slot_pos, T.ag_134, T.ag_136, T.ag_3, T.fo_134_1, T.fo_134_2, T.fo_138_0, T.fo_138_2, T.gf_60, T.ib_3, T.ib_66, T.ii_9, T.ip_3, T.ip_66, T.mt_136, T.s8_9, T.sl_9, T.st_9, T.un_9, T.zo_134, T.zv_134, hp, caC, hM.at_, hf]
    refine ⟨hkt, CaR.upd ⟨hpn, hpi, hp, cl, hM⟩ (ua.put (.inr (Nat.le_refl _))) (by simp) (by simp), hU.trans (ua.put (F := []) (.inr (Nat.le_refl _))) (by simp), .inr hex'⟩
theorem PutS_ph (h : Heap) (p id : Nat) (c : Ca) (k v : Value) (keep at_ : Int) (hk : isStrV k) (hv : ∃ n, v = .int .i64 n) (hC : CaR isStrV h p id c) (hO : CaOk c) (h1 : 0 ≤ keep) (h2 : keep ≤ farC) (h3 : 0 ≤ at_) (h4 : at_ ≤ farC) (h5 : c.puts < 4611686018427387904) (one : k.oneCell' = true ∧ v.oneCell' = true) :
    @CallsH Try.prog 30 #[.pointer (some ⟨p, 0, none⟩), k, v, .int .i64 keep, .int .i64 at_] h ⟨fun u H => u = .int .i64 0 ∧ (∃ b, CaR isStrV H p id (putS c k v keep at_ b one)) ∧ Upd h H [p, id]⟩ := by
  have hkt : keyTy Try.prog 9 k = true := by obtain ⟨s, rfl⟩ := hk; rfl
  have hk1 := one.1
  have hkc := cells_of_one one.1
  have hvc := cells_of_one one.2
  unfold farC at h2 h4
  have c1 : (keep < 0) = False := eq_false (by omega)
  have c2 : (1099511627776 < keep) = False := eq_false (by omega)
  have c3 : (at_ < 0) = False := eq_false (by omega)
  have c4 : (1099511627776 < at_) = False := eq_false (by omega)
  (refine calls_of_codeR (rs := [.tmp 10]) Try.func30 rfl rfl (by simp) ?_)
  (refine CodeH.seq' (CodeH.of_vc [] hm (by kernel_rfl) ?_); simp (config := { dsimp := false, maxSteps := 10000000 }) (disch := omega) only [go_sem, reduceIte, Nat.reduceEqDiff, reduceCtorEq, Nat.reduceAdd, Nat.reduceMul, Int.reduceToNat, Int.reduceLE, Int.reduceLT, Int.reduceEq, Int.reduceNe, Nat.reduceLeDiff, Int.reducePow, Nat.reducePow, Nat.reduceLT, Nat.reduceSub, Nat.reduceMod, Nat.reduceDiv, slot_neg, slot_pos, T.ag_134, T.ag_136, T.ag_3, T.ag_9, T.fo_134_0, T.fo_138_0, T.fo_138_1, T.fo_138_2, T.fo_138_3, T.gf_60, T.gf_61, T.gf_62, T.gf_63, T.gf_64, T.ib_3, T.ib_66, T.ii_136, T.ii_9, T.ip_3, T.ip_66, T.mt_136, T.pl_134, T.s8_136, T.s8_9, T.sl_136, T.sl_9, T.st_136, T.st_9, T.un_136, T.un_9, T.zo_134, T.zv_134, init_a])
  (refine CodeH.seq' (CodeH.of_vc [] hm (by kernel_rfl) ?_); simp (config := { dsimp := false, maxSteps := 10000000 }) (disch := omega) only [go_sem, reduceIte, Nat.reduceEqDiff, reduceCtorEq, Nat.reduceAdd, Nat.reduceMul, Int.reduceToNat, Int.reduceLE, Int.reduceLT, Int.reduceEq, Int.reduceNe, Nat.reduceLeDiff, Int.reducePow, Nat.reducePow, Nat.reduceLT, Nat.reduceSub, Nat.reduceMod, Nat.reduceDiv, slot_neg, slot_pos, T.ag_134, T.ag_136, T.ag_3, T.ag_9, T.fo_134_0, T.fo_138_0, T.fo_138_1, T.fo_138_2, T.fo_138_3, T.gf_60, T.gf_61, T.gf_62, T.gf_63, T.gf_64, T.ib_3, T.ib_66, T.ii_136, T.ii_9, T.ip_3, T.ip_66, T.mt_136, T.pl_134, T.s8_136, T.s8_9, T.sl_136, T.sl_9, T.st_136, T.st_9, T.un_136, T.un_9, T.zo_134, T.zv_134, init_a, c1, c2, c3, c4])
  refine CodeH.seq (fun r H => r 0 = .pointer (some ⟨p, 0, none⟩) ∧ r 1 = k ∧ r 2 = v ∧ r 3 = .int .i64 keep ∧ CaR isStrV H p id (timeC c at_) ∧ Upd h H [p, id]) (CodeH.of_vc [] hm (by kernel_rfl) ?_) fun r H ⟨q0, q1, q2, q3, hC1, hU1⟩ => ?_
  · simp (config := { dsimp := false, maxSteps := 10000000 }) (disch := omega) only [go_sem, reduceIte, Nat.reduceEqDiff, reduceCtorEq, Nat.reduceAdd, Nat.reduceMul, Int.reduceToNat, Int.reduceLE, Int.reduceLT, Int.reduceEq, Int.reduceNe, Nat.reduceLeDiff, Int.reducePow, Nat.reducePow, Nat.reduceLT, Nat.reduceSub, Nat.reduceMod, Nat.reduceDiv, slot_neg, slot_pos, T.ag_134, T.ag_136, T.ag_3, T.ag_9, T.fo_134_0, T.fo_138_0, T.fo_138_1, T.fo_138_2, T.fo_138_3, T.gf_60, T.gf_61, T.gf_62, T.gf_63, T.gf_64, T.ib_3, T.ib_66, T.ii_136, T.ii_9, T.ip_3, T.ip_66, T.mt_136, T.pl_134, T.s8_136, T.s8_9, T.sl_136, T.sl_9, T.st_136, T.st_9, T.un_136, T.un_9, T.zo_134, T.zv_134]
    refine (timeS_ph h p id c at_ hC).mono fun u H ⟨hC1, hU⟩ => ?_
    simp (config := { dsimp := false, maxSteps := 10000000 }) (disch := omega) only [go_sem, reduceIte, Nat.reduceEqDiff, reduceCtorEq, Nat.reduceAdd, Nat.reduceMul, Int.reduceToNat, Int.reduceLE, Int.reduceLT, Int.reduceEq, Int.reduceNe, Nat.reduceLeDiff, Int.reducePow, Nat.reducePow, Nat.reduceLT, Nat.reduceSub, Nat.reduceMod, Nat.reduceDiv, slot_neg, slot_pos, T.ag_134, T.ag_136, T.ag_3, T.ag_9, T.fo_134_0, T.fo_138_0, T.fo_138_1, T.fo_138_2, T.fo_138_3, T.gf_60, T.gf_61, T.gf_62, T.gf_63, T.gf_64, T.ib_3, T.ib_66, T.ii_136, T.ii_9, T.ip_3, T.ip_66, T.mt_136, T.pl_134, T.s8_136, T.s8_9, T.sl_136, T.sl_9, T.st_136, T.st_9, T.un_136, T.un_9, T.zo_134, T.zv_134]
    exact ⟨hC1, hU⟩
  refine CodeH.seq (fun r H => r 0 = .pointer (some ⟨p, 0, none⟩) ∧ r 1 = k ∧ r 2 = v ∧ r 3 = .int .i64 keep ∧ CaR isStrV H p id (without (timeC c at_) k) ∧ Upd h H [p, id]) (CodeH.of_vc [] hm (by kernel_rfl) ?_) fun r2 H2 ⟨q0, q1, q2, q3, hC2, hU2⟩ => ?_
  · obtain ⟨hpn, hpi, hp, cl, hM⟩ := hC1
    by_cases hex : ∃ x ∈ (timeC c at_).l, x.key = k
    · obtain ⟨x, hx, rfl⟩ := hex
      obtain ⟨i, hi⟩ := List.getElem?_of_mem hx
      have hf := find_some kind_str _ 0 i x hM.keys hM.one hi
      simp (config := { dsimp := false, maxSteps := 10000000 }) (disch := omega) only [go_sem, reduceIte, Nat.reduceEqDiff, reduceCtorEq, Nat.reduceAdd, Nat.reduceMul, Int.reduceToNat, Int.reduceLE, Int.reduceLT, Int.reduceEq, Int.reduceNe, Nat.reduceLeDiff, Int.reducePow, Nat.reducePow, Nat.reduceLT, Nat.reduceSub, Nat.reduceMod, Nat.reduceDiv, slot_neg, slot_pos, T.ag_134, T.ag_136, T.ag_3, T.ag_9, T.fo_134_0, T.fo_138_0, T.fo_138_1, T.fo_138_2, T.fo_138_3, T.gf_60, T.gf_61, T.gf_62, T.gf_63, T.gf_64, T.ib_3, T.ib_66, T.ii_136, T.ii_9, T.ip_3, T.ip_66, T.mt_136, T.pl_134, T.s8_136, T.s8_9, T.sl_136, T.sl_9, T.st_136, T.st_9, T.un_136, T.un_9, T.zo_134, T.zv_134, q0, q1, q2, q3, hp, caC, hM.at_, hf]
      rw [ents_erase, erase_key kind_str hM hi]
      exact ⟨hkt, CaR.turn ⟨hpn, hpi, hp, cl, hM⟩ (List.filter_sublist ..) hM.at_, hU1.put (.inl (by simp))⟩
    · have hex' : ∀ x ∈ (timeC c at_).l, x.key ≠ k := fun x hx e => hex ⟨x, hx, e⟩
      have hf := find_none kind_str hk _ 0 hM.keys hex'
      simp (config := { dsimp := false, maxSteps := 10000000 }) (disch := omega) only [go_sem, reduceIte, Nat.reduceEqDiff, reduceCtorEq, Nat.reduceAdd, Nat.reduceMul, Int.reduceToNat, Int.reduceLE, Int.reduceLT, Int.reduceEq, Int.reduceNe, Nat.reduceLeDiff, Int.reducePow, Nat.reducePow, Nat.reduceLT, Nat.reduceSub, Nat.reduceMod, Nat.reduceDiv, slot_neg, slot_pos, T.ag_134, T.ag_136, T.ag_3, T.ag_9, T.fo_134_0, T.fo_138_0, T.fo_138_1, T.fo_138_2, T.fo_138_3, T.gf_60, T.gf_61, T.gf_62, T.gf_63, T.gf_64, T.ib_3, T.ib_66, T.ii_136, T.ii_9, T.ip_3, T.ip_66, T.mt_136, T.pl_134, T.s8_136, T.s8_9, T.sl_136, T.sl_9, T.st_136, T.st_9, T.un_136, T.un_9, T.zo_134, T.zv_134, q0, q1, q2, q3, hp, caC, hM.at_, hf]
      have e : (timeC c at_).l = (without (timeC c at_) k).l := (List.filter_eq_self.2 fun x hx => by rw [keq_no kind_str hk (hM.keys x hx) (fun e => hex' x hx e.symm)]; rfl).symm
      rw [e]
      exact ⟨hkt, CaR.turn ⟨hpn, hpi, hp, cl, hM⟩ (List.filter_sublist ..) hM.at_, hU1.put (.inl (by simp))⟩
  clear hC1 hU1
  obtain ⟨c2, hc2⟩ : ∃ c2, without (timeC c at_) k = c2 := ⟨_, rfl⟩
  have hput : ∀ b, putS c k v keep at_ b one = if keep = 0 then c2 else { c2 with l := (if c2.most ≤ c2.l.length then dropMin c2.l else c2.l) ++ [⟨k, v, c2.now + keep, c2.puts + 1, b, one⟩], puts := c2.puts + 1 } := fun b => by rw [← hc2]; rfl
  have hO2 : CaOk c2 := by rw [← hc2]; exact (hO.time at_).without k
  have hkf : ∀ x ∈ c2.l, x.key ≠ k := fun x hx e => by
    rw [← hc2] at hx
    have := (List.mem_filter.1 hx).2
    rw [e, keq_yes kind_str hk] at this; cases this
  have hp2 : c2.puts = c.puts := by rw [← hc2]; rfl
  rw [hc2] at hC2
  clear hc2 hC
  by_cases hk0 : keep = 0
  · subst hk0
    have hput := hput 0
    rw [if_pos rfl] at hput
    refine CodeH.seq (fun r H => False) (CodeH.of_vc [] hm (by kernel_rfl) ?_) fun r H hF => hF.elim
    simp (config := { dsimp := false, maxSteps := 10000000 }) (disch := omega) only [go_sem, reduceIte, Nat.reduceEqDiff, reduceCtorEq, Nat.reduceAdd, Nat.reduceMul, Int.reduceToNat, Int.reduceLE, Int.reduceLT, Int.reduceEq, Int.reduceNe, Nat.reduceLeDiff, Int.reducePow, Nat.reducePow, Nat.reduceLT, Nat.reduceSub, Nat.reduceMod, Nat.reduceDiv, slot_neg, slot_pos, T.ag_134, T.ag_136, T.ag_3, T.ag_9, T.fo_134_0, T.fo_138_0, T.fo_138_1, T.fo_138_2, T.fo_138_3, T.gf_60, T.gf_61, T.gf_62, T.gf_63, T.gf_64, T.ib_3, T.ib_66, T.ii_136, T.ii_9, T.ip_3, T.ip_66, T.mt_136, T.pl_134, T.s8_136, T.s8_9, T.sl_136, T.sl_9, T.st_136, T.st_9, T.un_136, T.un_9, T.zo_134, T.zv_134, q0, q1, q2, q3]
    exact ⟨⟨0, hput ▸ hC2⟩, hU2⟩
  have c5 : (keep = 0) = False := eq_false hk0
  refine CodeH.seq (fun r H => r 0 = .pointer (some ⟨p, 0, none⟩) ∧ r 1 = k ∧ r 2 = v ∧ r 3 = .int .i64 keep ∧ H = H2) (CodeH.of_vc [] hm (by kernel_rfl) ?_) fun r3 H3 ⟨q0, q1, q2, q3, e2⟩ => ?_
  · simp (config := { dsimp := false, maxSteps := 10000000 }) (disch := omega) only [go_sem, reduceIte, Nat.reduceEqDiff, reduceCtorEq, Nat.reduceAdd, Nat.reduceMul, Int.reduceToNat, Int.reduceLE, Int.reduceLT, Int.reduceEq, Int.reduceNe, Nat.reduceLeDiff, Int.reducePow, Nat.reducePow, Nat.reduceLT, Nat.reduceSub, Nat.reduceMod, Nat.reduceDiv, slot_neg, slot_pos, T.ag_134, T.ag_136, T.ag_3, T.ag_9, T.fo_134_0, T.fo_138_0, T.fo_138_1, T.fo_138_2, T.fo_138_3, T.gf_60, T.gf_61, T.gf_62, T.gf_63, T.gf_64, T.ib_3, T.ib_66, T.ii_136, T.ii_9, T.ip_3, T.ip_66, T.mt_136, T.pl_134, T.s8_136, T.s8_9, T.sl_136, T.sl_9, T.st_136, T.st_9, T.un_136, T.un_9, T.zo_134, T.zv_134, q0, q1, q2, q3, c5]
  subst e2
  refine CodeH.seq (fun r H => r 0 = .pointer (some ⟨p, 0, none⟩) ∧ r 1 = k ∧ r 2 = v ∧ r 3 = .int .i64 keep ∧ CaR isStrV H p id { c2 with l := if c2.most ≤ c2.l.length then dropMin c2.l else c2.l } ∧ Upd h H [p, id]) (CodeH.of_vc [] hm (by kernel_rfl) ?_) fun r4 H4 ⟨q0, q1, q2, q3, hC4, hU4⟩ => ?_
  · obtain ⟨hpn, hpi, hp, cl, hM⟩ := hC2
    have hel : (ents c2.l).length = c2.l.length := by unfold ents; rw [List.length_map]
    by_cases hb : c2.most ≤ (c2.l.length : Int)
    · have hb' := eq_true hb
      rw [if_pos hb]
      simp (config := { dsimp := false, maxSteps := 10000000 }) (disch := omega) only [go_sem, reduceIte, Nat.reduceEqDiff, reduceCtorEq, Nat.reduceAdd, Nat.reduceMul, Int.reduceToNat, Int.reduceLE, Int.reduceLT, Int.reduceEq, Int.reduceNe, Nat.reduceLeDiff, Int.reducePow, Nat.reducePow, Nat.reduceLT, Nat.reduceSub, Nat.reduceMod, Nat.reduceDiv, slot_neg, slot_pos, T.ag_134, T.ag_136, T.ag_3, T.ag_9, T.fo_134_0, T.fo_138_0, T.fo_138_1, T.fo_138_2, T.fo_138_3, T.gf_60, T.gf_61, T.gf_62, T.gf_63, T.gf_64, T.ib_3, T.ib_66, T.ii_136, T.ii_9, T.ip_3, T.ip_66, T.mt_136, T.pl_134, T.s8_136, T.s8_9, T.sl_136, T.sl_9, T.st_136, T.st_9, T.un_136, T.un_9, T.zo_134, T.zv_134, q0, q1, q2, q3, hp, caC, hM.at_, hel, hb']
      have hidn := hM.lt
      have hbl : c2.l.length ≤ 10000 := by have := hO2.len; omega
      refine (ValuesS_ph H3 id).mono fun u Ha ⟨e1, e2⟩ => ?_
      subst e1
      have gb : Ha.get H3.next = .live (.cells [.map (some id)] .own) := by rw [e2, get_alloc, if_pos rfl]
      have ua : Upd H3 Ha [] := by rw [e2]; exact Upd.alloc _ _ _
      have na : Ha.next = H3.next + 1 := by rw [e2]; rfl
      clear e2
      simp (config := { dsimp := false, maxSteps := 10000000 }) (disch := omega) only [go_sem, reduceIte, Nat.reduceEqDiff, reduceCtorEq, Nat.reduceAdd, Nat.reduceMul, Int.reduceToNat, Int.reduceLE, Int.reduceLT, Int.reduceEq, Int.reduceNe, Nat.reduceLeDiff, Int.reducePow, Nat.reducePow, Nat.reduceLT, Nat.reduceSub, Nat.reduceMod, Nat.reduceDiv, slot_neg, slot_pos, T.ag_134, T.ag_136, T.ag_3, T.ag_9, T.fo_134_0, T.fo_138_0, T.fo_138_1, T.fo_138_2, T.fo_138_3, T.gf_60, T.gf_61, T.gf_62, T.gf_63, T.gf_64, T.ib_3, T.ib_66, T.ii_136, T.ii_9, T.ip_3, T.ip_66, T.mt_136, T.pl_134, T.s8_136, T.s8_9, T.sl_136, T.sl_9, T.st_136, T.st_9, T.un_136, T.un_9, T.zo_134, T.zv_134, q0, q1, q2, q3]
      refine (CollectS_ph Ha H3.next id c2.l cl hM.born hM.clock hbl .own gb ((ua.2 id hidn (by simp)).trans hM.at_) (by omega) (by omega)).mono fun u Hb ⟨s, D, hsp, hrow, hDn, ub⟩ => ?_
      simp (config := { dsimp := false, maxSteps := 10000000 }) (disch := omega) only [go_sem, reduceIte, Nat.reduceEqDiff, reduceCtorEq, Nat.reduceAdd, Nat.reduceMul, Int.reduceToNat, Int.reduceLE, Int.reduceLT, Int.reduceEq, Int.reduceNe, Nat.reduceLeDiff, Int.reducePow, Nat.reducePow, Nat.reduceLT, Nat.reduceSub, Nat.reduceMod, Nat.reduceDiv, slot_neg, slot_pos, T.ag_134, T.ag_136, T.ag_3, T.ag_9, T.fo_134_0, T.fo_138_0, T.fo_138_1, T.fo_138_2, T.fo_138_3, T.gf_60, T.gf_61, T.gf_62, T.gf_63, T.gf_64, T.ib_3, T.ib_66, T.ii_136, T.ii_9, T.ip_3, T.ip_66, T.mt_136, T.pl_134, T.s8_136, T.s8_9, T.sl_136, T.sl_9, T.st_136, T.st_9, T.un_136, T.un_9, T.zo_134, T.zv_134, q0, q1, q2, q3]
      have hsl : s.length = c2.l.length := hsp.length_eq
      refine (MinS_ph Hb u s hrow.row (fun A n st e => ?_) ?_ (by omega)).mono fun u2 Hc ⟨uc, x, hxs, hu2, hmin⟩ => ?_
      · rcases hrow with ⟨e1, _, _⟩ | ⟨q, off, vs, _, hq, e1, _⟩ <;> rw [e] at e1 <;> cases e1
        exact hq
      · have := hO2.most; omega
      subst hu2
      have hx1 := x.one
      have hxc : x.agg.cells = #[x.key, x.val, .int .i64 x.goes, .int .i64 x.put] := cells_agg
      simp (config := { dsimp := false, maxSteps := 10000000 }) (disch := omega) only [go_sem, reduceIte, Nat.reduceEqDiff, reduceCtorEq, Nat.reduceAdd, Nat.reduceMul, Int.reduceToNat, Int.reduceLE, Int.reduceLT, Int.reduceEq, Int.reduceNe, Nat.reduceLeDiff, Int.reducePow, Nat.reducePow, Nat.reduceLT, Nat.reduceSub, Nat.reduceMod, Nat.reduceDiv, slot_neg, slot_pos, T.ag_134, T.ag_136, T.ag_3, T.ag_9, T.fo_134_0, T.fo_138_0, T.fo_138_1, T.fo_138_2, T.fo_138_3, T.gf_60, T.gf_61, T.gf_62, T.gf_63, T.gf_64, T.ib_3, T.ib_66, T.ii_136, T.ii_9, T.ip_3, T.ip_66, T.mt_136, T.pl_134, T.s8_136, T.s8_9, T.sl_136, T.sl_9, T.st_136, T.st_9, T.un_136, T.un_9, T.zo_134, T.zv_134, q0, q1, q2, q3, hxc, hx1.1, hx1.2]
      obtain ⟨Hd, hHd⟩ : ∃ Hd, (Hc.alloc (.cells [.string (str []), .int .i64 0, .int .i64 0, .int .i64 0] .own)).put Hc.next (.live (.cells [x.key, x.val, .int .i64 x.goes, .int .i64 x.put] .own)) = Hd := ⟨_, rfl⟩
      rw [hHd]
      have ud : Upd Hc Hd [] := by rw [← hHd]; exact ((Upd.refl _ _).allocs).put (.inr (Nat.le_refl _))
      have gd : Hd.get Hc.next = .live (.cells [x.key, x.val, .int .i64 x.goes, .int .i64 x.put] .own) := by rw [← hHd, get_put, if_pos rfl]
      clear hHd
      have uall : Upd H3 Hd [] := ((ua.trans ub (by simp)).trans uc (by simp)).trans ud (by simp)
      have hpd := (uall.2 p hpn (by simp)).trans hp
      have hMd : MapT isStrV Hd id c2.l cl := hM.upd uall (by simp)
      have hxl : x ∈ c2.l := hsp.subset hxs
      obtain ⟨i, hi⟩ := List.getElem?_of_mem hxl
      have hf := find_some kind_str _ 0 i x hM.keys hM.one hi
      refine draw_plan0 (.takeS 0 (.takeS 1 (.takeS 2 (.takeS 3 (.takeS 4 (.takeS 5 (.alt 6 .done .stop))))))) hm (by kernel_rfl) (by kernel_rfl) ?_
      simp (config := { dsimp := false, maxSteps := 10000000 }) (disch := omega) only [go_sem, reduceIte, Nat.reduceEqDiff, reduceCtorEq, Nat.reduceAdd, Nat.reduceMul, Int.reduceToNat, Int.reduceLE, Int.reduceLT, Int.reduceEq, Int.reduceNe, Nat.reduceLeDiff, Int.reducePow, Nat.reducePow, Nat.reduceLT, Nat.reduceSub, Nat.reduceMod, Nat.reduceDiv, slot_neg, slot_pos, T.ag_134, T.ag_136, T.ag_3, T.ag_9, T.fo_134_0, T.fo_138_0, T.fo_138_1, T.fo_138_2, T.fo_138_3, T.gf_60, T.gf_61, T.gf_62, T.gf_63, T.gf_64, T.ib_3, T.ib_66, T.ii_136, T.ii_9, T.ip_3, T.ip_66, T.mt_136, T.pl_134, T.s8_136, T.s8_9, T.sl_136, T.sl_9, T.st_136, T.st_9, T.un_136, T.un_9, T.zo_134, T.zv_134, q0, q1, q2, q3, hpd, caC, gd, hMd.at_, hf]
      rw [ents_erase, erase_key kind_str hM hi, dropMin_eq kind_str hM hO2.asc hxl fun y hy => hmin y (hsp.mem_iff.2 hy)]
      refine ⟨by obtain ⟨s, e⟩ := hM.keys x hxl; rw [e]; rfl, CaR.turn (c := c2) ⟨Nat.lt_of_lt_of_le hpn uall.1, hpi, hpd, cl, hMd⟩ (List.filter_sublist ..) hMd.at_, (hU2.trans uall (by simp)).put (.inl (by simp))⟩
    · have hb' := eq_false hb
      rw [if_neg hb]
      simp (config := { dsimp := false, maxSteps := 10000000 }) (disch := omega) only [go_sem, reduceIte, Nat.reduceEqDiff, reduceCtorEq, Nat.reduceAdd, Nat.reduceMul, Int.reduceToNat, Int.reduceLE, Int.reduceLT, Int.reduceEq, Int.reduceNe, Nat.reduceLeDiff, Int.reducePow, Nat.reducePow, Nat.reduceLT, Nat.reduceSub, Nat.reduceMod, Nat.reduceDiv, slot_neg, slot_pos, T.ag_134, T.ag_136, T.ag_3, T.ag_9, T.fo_134_0, T.fo_138_0, T.fo_138_1, T.fo_138_2, T.fo_138_3, T.gf_60, T.gf_61, T.gf_62, T.gf_63, T.gf_64, T.ib_3, T.ib_66, T.ii_136, T.ii_9, T.ip_3, T.ip_66, T.mt_136, T.pl_134, T.s8_136, T.s8_9, T.sl_136, T.sl_9, T.st_136, T.st_9, T.un_136, T.un_9, T.zo_134, T.zv_134, q0, q1, q2, q3, hp, caC, hM.at_, hel, hb']
      exact ⟨⟨hpn, hpi, hp, cl, hM⟩, hU2⟩
  obtain ⟨hpn, hpi, hp, cl, hM⟩ := hC4
  obtain ⟨l4, hl4⟩ : ∃ l4, (if c2.most ≤ c2.l.length then dropMin c2.l else c2.l) = l4 := ⟨_, rfl⟩
  rw [hl4] at hM hp
  have hl4s : l4.Sublist c2.l := by
    rw [← hl4]; split
    · exact List.filter_sublist ..
    · exact List.Sublist.refl _
  have w1 : IntKind.i64.wrap (c2.puts + 1) = c2.puts + 1 := i64wrap (by have := hO2.puts; omega) (by omega)
  have w2 : IntKind.i64.wrap (c2.now + keep) = c2.now + keep := i64wrap (by have := hO2.now; omega) (by have := hO2.now; unfold farC at this; omega)
  refine CodeH.seq (fun r H => r 0 = .pointer (some ⟨p, 0, none⟩) ∧ r 1 = k ∧ r 2 = v ∧ r 3 = .int .i64 keep ∧ H = H4.put p (.live (.cells (caC id { c2 with l := l4, puts := c2.puts + 1 }) .own))) (CodeH.of_vc [] hm (by kernel_rfl) ?_) fun r5 H5 ⟨q0, q1, q2, q3, e5⟩ => ?_
  · simp (config := { dsimp := false, maxSteps := 10000000 }) (disch := omega) only [go_sem, reduceIte, Nat.reduceEqDiff, reduceCtorEq, Nat.reduceAdd, Nat.reduceMul, Int.reduceToNat, Int.reduceLE, Int.reduceLT, Int.reduceEq, Int.reduceNe, Nat.reduceLeDiff, Int.reducePow, Nat.reducePow, Nat.reduceLT, Nat.reduceSub, Nat.reduceMod, Nat.reduceDiv, slot_neg, slot_pos, T.ag_134, T.ag_136, T.ag_3, T.ag_9, T.fo_134_0, T.fo_138_0, T.fo_138_1, T.fo_138_2, T.fo_138_3, T.gf_60, T.gf_61, T.gf_62, T.gf_63, T.gf_64, T.ib_3, T.ib_66, T.ii_136, T.ii_9, T.ip_3, T.ip_66, T.mt_136, T.pl_134, T.s8_136, T.s8_9, T.sl_136, T.sl_9, T.st_136, T.st_9, T.un_136, T.un_9, T.zo_134, T.zv_134, q0, q1, q2, q3, hp, caC, w1]
  have hp5 : H5.get p = .live (.cells (caC id { c2 with l := l4, puts := c2.puts + 1 }) .own) := by rw [e5, get_put, if_pos rfl]
  have u5 : Upd H4 H5 [p] := by rw [e5]; exact (Upd.refl _ _).put (.inl (by simp))
  have hM5 : MapT isStrV H5 id l4 cl := hM.upd u5 (by simp; omega)
  have n5 : H5.next = H4.next := by rw [e5]; rfl
  clear e5
  have hf := find_none kind_str hk l4 0 hM5.keys fun x hx => hkf x (hl4s.subset hx)
  refine CodeH.seq (fun r H => H = H5.put id (.live (.map (ents (l4 ++ [⟨k, v, c2.now + keep, c2.puts + 1, cl, one⟩])) (cl + 1) .own))) (CodeH.of_vc [] hm (by kernel_rfl) ?_) fun r6 H6 e6 => ?_
  · simp (config := { dsimp := false, maxSteps := 10000000 }) (disch := omega) only [go_sem, reduceIte, Nat.reduceEqDiff, reduceCtorEq, Nat.reduceAdd, Nat.reduceMul, Int.reduceToNat, Int.reduceLE, Int.reduceLT, Int.reduceEq, Int.reduceNe, Nat.reduceLeDiff, Int.reducePow, Nat.reducePow, Nat.reduceLT, Nat.reduceSub, Nat.reduceMod, Nat.reduceDiv, slot_neg, slot_pos, T.ag_134, T.ag_136, T.ag_3, T.ag_9, T.fo_134_0, T.fo_138_0, T.fo_138_1, T.fo_138_2, T.fo_138_3, T.gf_60, T.gf_61, T.gf_62, T.gf_63, T.gf_64, T.ib_3, T.ib_66, T.ii_136, T.ii_9, T.ip_3, T.ip_66, T.mt_136, T.pl_134, T.s8_136, T.s8_9, T.sl_136, T.sl_9, T.st_136, T.st_9, T.un_136, T.un_9, T.zo_134, T.zv_134, q0, q1, q2, q3, hp5, caC]
    refine draw_plan0 (.takeS 0 (.takeS 1 (.takeS 2 (.takeS 3 (.takeS 4 (.takeS 5 (.takeS 6 (.takeS 7 (.takeS 8 (.takeS 9 (.takeS 10 (.takeS 11 (.takeS 12 (.takeS 13 (.takeS 14 (.takeS 15 (.takeS 16 (.takeS 17 (.alt 18 .done .stop))))))))))))))))))) hm (by kernel_rfl) (by kernel_rfl) ?_
    simp (config := { dsimp := false, maxSteps := 10000000 }) (disch := omega) only [go_sem, reduceIte, Nat.reduceEqDiff, reduceCtorEq, Nat.reduceAdd, Nat.reduceMul, Int.reduceToNat, Int.reduceLE, Int.reduceLT, Int.reduceEq, Int.reduceNe, Nat.reduceLeDiff, Int.reducePow, Nat.reducePow, Nat.reduceLT, Nat.reduceSub, Nat.reduceMod, Nat.reduceDiv, slot_neg, slot_pos, T.ag_134, T.ag_136, T.ag_3, T.ag_9, T.fo_134_0, T.fo_138_0, T.fo_138_1, T.fo_138_2, T.fo_138_3, T.gf_60, T.gf_61, T.gf_62, T.gf_63, T.gf_64, T.ib_3, T.ib_66, T.ii_136, T.ii_9, T.ip_3, T.ip_66, T.mt_136, T.pl_134, T.s8_136, T.s8_9, T.sl_136, T.sl_9, T.st_136, T.st_9, T.un_136, T.un_9, T.zo_134, T.zv_134, q0, q1, q2, q3, hp5, caC, hM5.at_, hf, w2, hkc, hvc]
    exact ⟨hkt, by unfold ents; rw [List.map_append]; rfl⟩
  (refine CodeH.of_vc [] hm (by kernel_rfl) ?_; simp (config := { dsimp := false, maxSteps := 10000000 }) (disch := omega) only [go_sem, reduceIte, Nat.reduceEqDiff, reduceCtorEq, Nat.reduceAdd, Nat.reduceMul, Int.reduceToNat, Int.reduceLE, Int.reduceLT, Int.reduceEq, Int.reduceNe, Nat.reduceLeDiff, Int.reducePow, Nat.reducePow, Nat.reduceLT, Nat.reduceSub, Nat.reduceMod, Nat.reduceDiv, slot_neg, slot_pos, T.ag_134, T.ag_136, T.ag_3, T.ag_9, T.fo_134_0, T.fo_138_0, T.fo_138_1, T.fo_138_2, T.fo_138_3, T.gf_60, T.gf_61, T.gf_62, T.gf_63, T.gf_64, T.ib_3, T.ib_66, T.ii_136, T.ii_9, T.ip_3, T.ip_66, T.mt_136, T.pl_134, T.s8_136, T.s8_9, T.sl_136, T.sl_9, T.st_136, T.st_9, T.un_136, T.un_9, T.zo_134, T.zv_134, init_a])
  rw [e6]
  refine ⟨⟨cl, ?_⟩, ((hU4.trans (u5.mono (G := [p, id]) (by simp)) (by simp)).put (.inl (by simp)))⟩
  rw [hput, if_neg hk0]
  rw [hl4]
  exact ⟨by rw [next_put]; omega, hpi, by rw [get_put, if_neg hpi]; exact hp5, cl + 1, hM5.add hk (fun x hx => hkf x (hl4s.subset hx)) _ rfl rfl⟩
theorem PutES_ph (h : Heap) (v0 k v : Value) (keep at_ : Int) (hv0 : v0 = .pointer none ∨ ((∃ p, v0 = .pointer (some ⟨p, 0, none⟩)) ∧ (keep < 0 ∨ farC < keep ∨ at_ < 0 ∨ farC < at_))) :
    @CallsH Try.prog 30 #[v0, k, v, .int .i64 keep, .int .i64 at_] h ⟨fun u H => u = .int .i64 1 ∧ H = h⟩ := by
  rcases hv0 with rfl | ⟨⟨p, rfl⟩, hb⟩
  · (refine calls_of_vc [] hm Try.func30 rfl (ts := [10]) rfl (by kernel_rfl) (by simp) ?_; simp (config := { dsimp := false, maxSteps := 10000000 }) (disch := omega) only [go_sem, reduceIte, Nat.reduceEqDiff, reduceCtorEq, Nat.reduceAdd, Nat.reduceMul, Int.reduceToNat, Int.reduceLE, Int.reduceLT, Int.reduceEq, Int.reduceNe, Nat.reduceLeDiff, Int.reducePow, Nat.reducePow, Nat.reduceLT, Nat.reduceSub, Nat.reduceMod, Nat.reduceDiv, slot_neg, slot_pos, T.ag_134, T.ag_136, T.ag_3, T.ag_9, T.fo_134_0, T.fo_138_0, T.fo_138_1, T.fo_138_2, T.fo_138_3, T.gf_60, T.gf_61, T.gf_62, T.gf_63, T.gf_64, T.ib_3, T.ib_66, T.ii_136, T.ii_9, T.ip_3, T.ip_66, T.mt_136, T.pl_134, T.s8_136, T.s8_9, T.sl_136, T.sl_9, T.st_136, T.st_9, T.un_136, T.un_9, T.zo_134, T.zv_134, init_a])
  · unfold farC at hb
    by_cases c1 : keep < 0
    · (refine calls_of_vc [] hm Try.func30 rfl (ts := [10]) rfl (by kernel_rfl) (by simp) ?_; simp (config := { dsimp := false, maxSteps := 10000000 }) (disch := omega) only [go_sem, reduceIte, Nat.reduceEqDiff, reduceCtorEq, Nat.reduceAdd, Nat.reduceMul, Int.reduceToNat, Int.reduceLE, Int.reduceLT, Int.reduceEq, Int.reduceNe, Nat.reduceLeDiff, Int.reducePow, Nat.reducePow, Nat.reduceLT, Nat.reduceSub, Nat.reduceMod, Nat.reduceDiv, slot_neg, slot_pos, T.ag_134, T.ag_136, T.ag_3, T.ag_9, T.fo_134_0, T.fo_138_0, T.fo_138_1, T.fo_138_2, T.fo_138_3, T.gf_60, T.gf_61, T.gf_62, T.gf_63, T.gf_64, T.ib_3, T.ib_66, T.ii_136, T.ii_9, T.ip_3, T.ip_66, T.mt_136, T.pl_134, T.s8_136, T.s8_9, T.sl_136, T.sl_9, T.st_136, T.st_9, T.un_136, T.un_9, T.zo_134, T.zv_134, init_a, c1])
    · by_cases c2 : 1099511627776 < keep
      · (refine calls_of_vc [] hm Try.func30 rfl (ts := [10]) rfl (by kernel_rfl) (by simp) ?_; simp (config := { dsimp := false, maxSteps := 10000000 }) (disch := omega) only [go_sem, reduceIte, Nat.reduceEqDiff, reduceCtorEq, Nat.reduceAdd, Nat.reduceMul, Int.reduceToNat, Int.reduceLE, Int.reduceLT, Int.reduceEq, Int.reduceNe, Nat.reduceLeDiff, Int.reducePow, Nat.reducePow, Nat.reduceLT, Nat.reduceSub, Nat.reduceMod, Nat.reduceDiv, slot_neg, slot_pos, T.ag_134, T.ag_136, T.ag_3, T.ag_9, T.fo_134_0, T.fo_138_0, T.fo_138_1, T.fo_138_2, T.fo_138_3, T.gf_60, T.gf_61, T.gf_62, T.gf_63, T.gf_64, T.ib_3, T.ib_66, T.ii_136, T.ii_9, T.ip_3, T.ip_66, T.mt_136, T.pl_134, T.s8_136, T.s8_9, T.sl_136, T.sl_9, T.st_136, T.st_9, T.un_136, T.un_9, T.zo_134, T.zv_134, init_a, c1, c2])
      · by_cases c3 : at_ < 0
        · (refine calls_of_vc [] hm Try.func30 rfl (ts := [10]) rfl (by kernel_rfl) (by simp) ?_; simp (config := { dsimp := false, maxSteps := 10000000 }) (disch := omega) only [go_sem, reduceIte, Nat.reduceEqDiff, reduceCtorEq, Nat.reduceAdd, Nat.reduceMul, Int.reduceToNat, Int.reduceLE, Int.reduceLT, Int.reduceEq, Int.reduceNe, Nat.reduceLeDiff, Int.reducePow, Nat.reducePow, Nat.reduceLT, Nat.reduceSub, Nat.reduceMod, Nat.reduceDiv, slot_neg, slot_pos, T.ag_134, T.ag_136, T.ag_3, T.ag_9, T.fo_134_0, T.fo_138_0, T.fo_138_1, T.fo_138_2, T.fo_138_3, T.gf_60, T.gf_61, T.gf_62, T.gf_63, T.gf_64, T.ib_3, T.ib_66, T.ii_136, T.ii_9, T.ip_3, T.ip_66, T.mt_136, T.pl_134, T.s8_136, T.s8_9, T.sl_136, T.sl_9, T.st_136, T.st_9, T.un_136, T.un_9, T.zo_134, T.zv_134, init_a, c1, c2, c3])
        · have c4 : 1099511627776 < at_ := by omega
          (refine calls_of_vc [] hm Try.func30 rfl (ts := [10]) rfl (by kernel_rfl) (by simp) ?_; simp (config := { dsimp := false, maxSteps := 10000000 }) (disch := omega) only [go_sem, reduceIte, Nat.reduceEqDiff, reduceCtorEq, Nat.reduceAdd, Nat.reduceMul, Int.reduceToNat, Int.reduceLE, Int.reduceLT, Int.reduceEq, Int.reduceNe, Nat.reduceLeDiff, Int.reducePow, Nat.reducePow, Nat.reduceLT, Nat.reduceSub, Nat.reduceMod, Nat.reduceDiv, slot_neg, slot_pos, T.ag_134, T.ag_136, T.ag_3, T.ag_9, T.fo_134_0, T.fo_138_0, T.fo_138_1, T.fo_138_2, T.fo_138_3, T.gf_60, T.gf_61, T.gf_62, T.gf_63, T.gf_64, T.ib_3, T.ib_66, T.ii_136, T.ii_9, T.ip_3, T.ip_66, T.mt_136, T.pl_134, T.s8_136, T.s8_9, T.sl_136, T.sl_9, T.st_136, T.st_9, T.un_136, T.un_9, T.zo_134, T.zv_134, init_a, c1, c2, c3, c4])

theorem timeFI_ph (h : Heap) (k : Value) (x : Th) (q p id : Nat) (c : Ca) (o o' : Own) (hq : h.get q = .live (.cells [.pointer (some ⟨p, 0, none⟩)] o)) (hp : h.get p = .live (.cells (caC id c) o')) (hqn : q < h.next) (hpn : p < h.next) :
    @CallsH Try.prog 70 #[k, x.agg, .pointer (some ⟨q, 0, none⟩)] h ⟨fun u _ => u = .bool (decide (x.goes ≤ c.now))⟩ := by
  have hxc : x.agg.cells = #[x.key, x.val, .int .i64 x.goes, .int .i64 x.put] := cells_agg
  have hx1 := x.one
  have n1 : (q = h.next) = False := eq_false (by omega)
  have n2 : (p = h.next) = False := eq_false (by omega)
  (refine calls_of_vc [] hm Try.func70 rfl (ts := [5]) rfl (by kernel_rfl) (by simp) ?_; simp (config := { dsimp := false, maxSteps := 10000000 }) (disch := omega) only [go_sem, reduceIte, Nat.reduceEqDiff, reduceCtorEq, Nat.reduceAdd, Nat.reduceMul, Int.reduceToNat, Int.reduceLE, Int.reduceLT, Int.reduceEq, Int.reduceNe, Nat.reduceLeDiff, Int.reducePow, Nat.reducePow, Nat.reduceLT, Nat.reduceSub, Nat.reduceMod, Nat.reduceDiv, slot_neg, slot_pos, T.ag_24, T.ag_3, T.fo_90_2, T.fo_93_2, T.ib_3, T.ip_3, init_a, hxc, hx1.1, hx1.2, hq, hp, n1, n2, caC])
theorem timeI_ph (h : Heap) (p id : Nat) (c : Ca) (at_ : Int) (hC : CaR isIntV h p id c) :
    @CallsH Try.prog 40 #[.pointer (some ⟨p, 0, none⟩), .int .i64 at_] h ⟨fun u H => CaR isIntV H p id (timeC c at_) ∧ Upd h H [p, id]⟩ := by
  obtain ⟨hpn, hpi, hp, cl, hM⟩ := hC
  have hidn := hM.lt
  have n1 : (p = h.next) = False := eq_false (by omega)
  (refine calls_of_vc [] hm Try.func40 rfl (ts := []) rfl (by kernel_rfl) (by simp) ?_; simp (config := { dsimp := false, maxSteps := 10000000 }) (disch := omega) only [go_sem, reduceIte, Nat.reduceEqDiff, reduceCtorEq, Nat.reduceAdd, Nat.reduceMul, Int.reduceToNat, Int.reduceLE, Int.reduceLT, Int.reduceEq, Int.reduceNe, Nat.reduceLeDiff, Int.reducePow, Nat.reducePow, Nat.reduceLT, Nat.reduceSub, Nat.reduceMod, Nat.reduceDiv, slot_neg, slot_pos, T.ag_24, T.ag_3, T.ag_88, T.fo_90_0, T.fo_90_2, T.gf_69, init_a, hp, n1, caC])
  refine draw_plan0 (.takeS 0 (.takeS 1 (.takeS 2 (.takeS 3 (.takeS 4 (.takeS 5 (.takeS 6 (.takeS 7 (.takeS 8 (.takeS 9 (.alt 10 .done .stop))))))))))) hm (by kernel_rfl) (by kernel_rfl) ?_
  simp (config := { dsimp := false, maxSteps := 10000000 }) (disch := omega) only [go_sem, reduceIte, Nat.reduceEqDiff, reduceCtorEq, Nat.reduceAdd, Nat.reduceMul, Int.reduceToNat, Int.reduceLE, Int.reduceLT, Int.reduceEq, Int.reduceNe, Nat.reduceLeDiff, Int.reducePow, Nat.reducePow, Nat.reduceLT, Nat.reduceSub, Nat.reduceMod, Nat.reduceDiv, slot_neg, slot_pos, T.ag_24, T.ag_3, T.ag_88, T.fo_90_0, T.fo_90_2, T.gf_69, hp, n1, caC]
  have e : (if c.now < if 1099511627776 < at_ then 1099511627776 else at_ then if 1099511627776 < at_ then 1099511627776 else at_ else c.now) = nowC c at_ := by
    unfold nowC farC; omega
  rw [e]
  obtain ⟨H1, hH1⟩ : ∃ H1, (h.alloc (.cells [.pointer (some ⟨p, 0, none⟩)] .own)).put p (.live (.cells (caC id { c with now := nowC c at_ }) .own)) = H1 := ⟨_, rfl⟩
  have g0 : H1.get h.next = .live (.cells [.pointer (some ⟨p, 0, none⟩)] .own) := by rw [← hH1, get_put, if_neg (by omega), get_alloc, if_pos rfl]
  have g1 : H1.get p = .live (.cells (caC id { c with now := nowC c at_ }) .own) := by rw [← hH1, get_put, if_pos rfl]
  have hU : Upd h H1 [p] := by rw [← hH1]; exact (Upd.alloc _ _ _).put (.inl (by simp))
  have hn : H1.next = h.next + 1 := by rw [← hH1]; rfl
  have hM1 : MapT isIntV H1 id c.l cl := hM.upd hU (by simp; omega)
  unfold caC at hH1
  dsimp only at hH1
  rw [hH1]
  clear hH1
  refine (DeleteMI_ph kind_int (fun k hk => by obtain ⟨s, rfl⟩ := hk; rfl) H1 id c.l cl _ _ (fun x => decide (x.goes ≤ nowC c at_)) hM1 (by kernel_rfl) (fun x hx H hu => ?_)).mono fun u H ⟨h1, h2⟩ => ?_
  · refine timeFI_ph H.ro x.key x h.next p id { c with now := nowC c at_ } .lock .lock ?_ ?_ ?_ ?_
    · rw [get_ro, hu.2 _ (by omega) (by simp; omega), g0]; rfl
    · rw [get_ro, hu.2 _ (by omega) (by simp; omega), g1]; rfl
    · have := hu.1; show h.next < H.next; omega
    · have := hu.1; show p < H.next; omega
  · simp (config := { dsimp := false, maxSteps := 10000000 }) (disch := omega) only [go_sem, reduceIte, Nat.reduceEqDiff, reduceCtorEq, Nat.reduceAdd, Nat.reduceMul, Int.reduceToNat, Int.reduceLE, Int.reduceLT, Int.reduceEq, Int.reduceNe, Nat.reduceLeDiff, Int.reducePow, Nat.reducePow, Nat.reduceLT, Nat.reduceSub, Nat.reduceMod, Nat.reduceDiv, slot_neg, slot_pos, T.ag_24, T.ag_3, T.ag_88, T.fo_90_0, T.fo_90_2, T.gf_69]
    have h3 := h2.1
    exact ⟨⟨by omega, hpi, (h2.2 p (by omega) (by simp; omega)).trans g1, cl, h1⟩, (hU.mono (by simp)).trans (h2.mono (G := [p, id]) (by simp)) (by simp)⟩
/-- New -/
theorem NewI_ph (h : Heap) (most : Int) (hm1 : 1 ≤ most) (hm2 : most ≤ 10000) :
    @CallsH Try.prog 10 #[.int .i64 most] h ⟨fun u H => ∃ p id, h.next ≤ p ∧ h.next ≤ id ∧ u = .tuple #[.pointer (some ⟨p, 0, none⟩), .int .i64 0] ∧ CaR isIntV H p id ⟨[], most, 0, 0⟩ ∧ Upd h H []⟩ := by
  have c1 : (most < 1) = False := eq_false (by omega)
  have c2 : (10000 < most) = False := eq_false (by omega)
  (refine calls_of_vc [] hm Try.func10 rfl (ts := [2, 3]) rfl (by kernel_rfl) (by simp) ?_; simp (config := { dsimp := false, maxSteps := 10000000 }) (disch := omega) only [go_sem, reduceIte, Nat.reduceEqDiff, reduceCtorEq, Nat.reduceAdd, Nat.reduceMul, Int.reduceToNat, Int.reduceLE, Int.reduceLT, Int.reduceEq, Int.reduceNe, Nat.reduceLeDiff, Int.reducePow, Nat.reducePow, Nat.reduceLT, Nat.reduceSub, Nat.reduceMod, Nat.reduceDiv, slot_neg, slot_pos, T.ib_3, T.ip_3, T.pl_90, T.zo_90, init_a, c1, c2])
  refine ⟨_, h.next, ?_, Nat.le_refl _, rfl, ⟨?_, ?_, ?_, 0, ?_, ?_, ?_, ?_, ?_, ?_⟩, (Upd.alloc _ _ _).allocs⟩
  · exact Nat.le_succ _
  · exact Nat.lt_succ_self _
  · exact Nat.succ_ne_self _
  · rw [get_alloc]; exact if_pos rfl
  · show h.next < h.next + 1 + 1; omega
  · rw [get_alloc, if_neg (by simp only [next_alloc]; omega), get_alloc, if_pos rfl]; rfl
  · simp
  · simp
  · simp
  · simp
theorem CountI_ph (h : Heap) (p id : Nat) (c : Ca) (at_ : Int) (hC : CaR isIntV h p id c) (hll : c.l.length ≤ 10000) :
    @CallsH Try.prog 26 #[.pointer (some ⟨p, 0, none⟩), .int .i64 at_] h ⟨fun u H => u = .int .i64 (timeC c at_).l.length ∧ CaR isIntV H p id (timeC c at_) ∧ Upd h H [p, id]⟩ := by
  (refine calls_of_vc [] hm Try.func26 rfl (ts := [4]) rfl (by kernel_rfl) (by simp) ?_; simp (config := { dsimp := false, maxSteps := 10000000 }) (disch := omega) only [go_sem, reduceIte, Nat.reduceEqDiff, reduceCtorEq, Nat.reduceAdd, Nat.reduceMul, Int.reduceToNat, Int.reduceLE, Int.reduceLT, Int.reduceEq, Int.reduceNe, Nat.reduceLeDiff, Int.reducePow, Nat.reducePow, Nat.reduceLT, Nat.reduceSub, Nat.reduceMod, Nat.reduceDiv, slot_neg, slot_pos, T.ag_88, T.fo_90_0, T.gf_40, T.ib_24, T.ii_3, T.ii_88, T.ip_24, T.mt_88, T.s8_3, T.s8_88, T.sl_3, T.sl_88, T.st_3, T.st_88, T.un_3, T.un_88, T.zv_93, init_a])
  refine (timeI_ph h p id c at_ hC).mono fun u H ⟨hC1, hU⟩ => ?_
  obtain ⟨hpn, hpi, hp, cl, hM⟩ := hC1
  have hlen : (timeC c at_).l.length ≤ 10000 := Nat.le_trans (List.length_filter_le _ _) hll
  simp (config := { dsimp := false, maxSteps := 10000000 }) (disch := omega) only [go_sem, reduceIte, Nat.reduceEqDiff, reduceCtorEq, Nat.reduceAdd, Nat.reduceMul, Int.reduceToNat, Int.reduceLE, Int.reduceLT, Int.reduceEq, Int.reduceNe, Nat.reduceLeDiff, Int.reducePow, Nat.reducePow, Nat.reduceLT, Nat.reduceSub, Nat.reduceMod, Nat.reduceDiv, slot_neg, slot_pos, T.ag_88, T.fo_90_0, T.gf_40, T.ib_24, T.ii_3, T.ii_88, T.ip_24, T.mt_88, T.s8_3, T.s8_88, T.sl_3, T.sl_88, T.st_3, T.st_88, T.un_3, T.un_88, T.zv_93, hp, caC, hM.at_]
  exact ⟨by unfold ents; rw [List.length_map], ⟨hpn, hpi, hp, cl, hM⟩, hU⟩
theorem GetI_ph (h : Heap) (p id : Nat) (c : Ca) (at_ : Int) (k : Value) (hk : isIntV k) (hC : CaR isIntV h p id c) :
    @CallsH Try.prog 12 #[.pointer (some ⟨p, 0, none⟩), k, .int .i64 at_] h ⟨fun u H => CaR isIntV H p id (timeC c at_) ∧ Upd h H [p, id] ∧ ((∃ x ∈ (timeC c at_).l, x.key = k ∧ u = .tuple #[x.val, .int .i64 (IntKind.i64.wrap (x.goes - (timeC c at_).now)), .bool true]) ∨ ((∀ x ∈ (timeC c at_).l, x.key ≠ k) ∧ u = .tuple #[.int .i64 0, .int .i64 0, .bool false]))⟩ := by
  have hkt : keyTy Try.prog 3 k = true := by obtain ⟨s, rfl⟩ := hk; rfl
  have hk1 : k.oneCell' = true := by obtain ⟨s, rfl⟩ := hk; rfl
  (refine calls_of_vc [] hm Try.func12 rfl (ts := [6, 7, 8]) rfl (by kernel_rfl) (by simp) ?_; simp (config := { dsimp := false, maxSteps := 10000000 }) (disch := omega) only [go_sem, reduceIte, Nat.reduceEqDiff, reduceCtorEq, Nat.reduceAdd, Nat.reduceMul, Int.reduceToNat, Int.reduceLE, Int.reduceLT, Int.reduceEq, Int.reduceNe, Nat.reduceLeDiff, Int.reducePow, Nat.reducePow, Nat.reduceLT, Nat.reduceSub, Nat.reduceMod, Nat.reduceDiv, slot_neg, slot_pos, T.ag_3, T.ag_88, T.ag_93, T.fo_90_0, T.fo_90_2, T.fo_93_1, T.fo_93_2, T.gf_40, T.ib_24, T.ib_3, T.ii_3, T.ip_24, T.ip_3, T.mt_88, T.s8_3, T.sl_3, T.st_3, T.un_3, T.zo_93, T.zv_93, init_a])
  refine (timeI_ph h p id c at_ hC).mono fun u H ⟨hC1, hU⟩ => ?_
  obtain ⟨hpn, hpi, hp, cl, hM⟩ := hC1
  have ua : Upd H (H.alloc (.cells [.int .i64 0, .int .i64 0, .int .i64 0, .int .i64 0] .own)) [] := Upd.alloc _ _ _
  by_cases hex : ∃ x ∈ (timeC c at_).l, x.key = k
  · obtain ⟨x, hx, rfl⟩ := hex
    obtain ⟨i, hi⟩ := List.getElem?_of_mem hx
    have hf := find_some kind_int _ 0 i x hM.keys hM.one hi
    have hxc : x.agg.cells = #[x.key, x.val, .int .i64 x.goes, .int .i64 x.put] := cells_agg
    have hx1 := x.one
    have n1 : (p = H.next) = False := eq_false (by omega)
    simp (config := { dsimp := false, maxSteps := 10000000 }) (disch := omega) only [go_sem, reduceIte, Nat.reduceEqDiff, reduceCtorEq, Nat.reduceAdd, Nat.reduceMul, Int.reduceToNat, Int.reduceLE, Int.reduceLT, Int.reduceEq, Int.reduceNe, Nat.reduceLeDiff, Int.reducePow, Nat.reducePow, Nat.reduceLT, Nat.reduceSub, Nat.reduceMod, Nat.reduceDiv, slot_neg, slot_pos, T.ag_3, T.ag_88, T.ag_93, T.fo_90_0, T.fo_90_2, T.fo_93_1, T.fo_93_2, T.gf_40, T.ib_24, T.ib_3, T.ii_3, T.ip_24, T.ip_3, T.mt_88, T.s8_3, T.sl_3, T.st_3, T.un_3, T.zo_93, T.zv_93, hp, caC, hM.at_, hf, hxc, hx1.1, hx1.2, n1]
    refine ⟨hkt, CaR.upd ⟨hpn, hpi, hp, cl, hM⟩ (ua.put (.inr (Nat.le_refl _))) (by simp) (by simp), hU.trans (ua.put (F := []) (.inr (Nat.le_refl _))) (by simp), .inl ⟨x, hx, rfl, rfl⟩⟩
  · have hex' : ∀ x ∈ (timeC c at_).l, x.key ≠ k := fun x hx e => hex ⟨x, hx, e⟩
    have hf := find_none kind_int hk _ 0 hM.keys hex'
    simp (config := { dsimp := false, maxSteps := 10000000 }) (disch := omega) only [go_sem, reduceIte, Nat.reduceEqDiff, reduceCtorEq, Nat.reduceAdd, Nat.reduceMul, Int.reduceToNat, Int.reduceLE, Int.reduceLT, Int.reduceEq, Int.reduceNe, Nat.reduceLeDiff, Int.reducePow, Nat.reducePow, Nat.reduceLT, Nat.reduceSub, Nat.reduceMod, Nat.reduceDiv, slot_neg, slot_pos, T.ag_3, T.ag_88, T.ag_93, T.fo_90_0, T.fo_90_2, T.fo_93_1, T.fo_93_2, T.gf_40, T.ib_24, T.ib_3, T.ii_3, T.ip_24, T.ip_3, T.mt_88, T.s8_3, T.sl_3, T.st_3, T.un_3, T.zo_93, T.zv_93, hp, caC, hM.at_, hf]
    refine ⟨hkt, CaR.upd ⟨hpn, hpi, hp, cl, hM⟩ (ua.put (.inr (Nat.le_refl _))) (by simp) (by simp), hU.trans (ua.put (F := []) (.inr (Nat.le_refl _))) (by simp), .inr hex'⟩
theorem PutI_ph (h : Heap) (p id : Nat) (c : Ca) (k v : Value) (keep at_ : Int) (hk : isIntV k) (hv : ∃ n, v = .int .i64 n) (hC : CaR isIntV h p id c) (hO : CaOk c) (h1 : 0 ≤ keep) (h2 : keep ≤ farC) (h3 : 0 ≤ at_) (h4 : at_ ≤ farC) (h5 : c.puts < 4611686018427387904) (one : k.oneCell' = true ∧ v.oneCell' = true) :
    @CallsH Try.prog 11 #[.pointer (some ⟨p, 0, none⟩), k, v, .int .i64 keep, .int .i64 at_] h ⟨fun u H => u = .int .i64 0 ∧ (∃ b, CaR isIntV H p id (putS c k v keep at_ b one)) ∧ Upd h H [p, id]⟩ := by
  have hkt : keyTy Try.prog 3 k = true := by obtain ⟨s, rfl⟩ := hk; rfl
  have hk1 := one.1
  have hkc := cells_of_one one.1
  have hvc := cells_of_one one.2
  unfold farC at h2 h4
  have c1 : (keep < 0) = False := eq_false (by omega)
  have c2 : (1099511627776 < keep) = False := eq_false (by omega)
  have c3 : (at_ < 0) = False := eq_false (by omega)
  have c4 : (1099511627776 < at_) = False := eq_false (by omega)
  (refine calls_of_codeR (rs := [.tmp 10]) Try.func11 rfl rfl (by simp) ?_)
  (refine CodeH.seq' (CodeH.of_vc [] hm (by kernel_rfl) ?_); simp (config := { dsimp := false, maxSteps := 10000000 }) (disch := omega) only [go_sem, reduceIte, Nat.reduceEqDiff, reduceCtorEq, Nat.reduceAdd, Nat.reduceMul, Int.reduceToNat, Int.reduceLE, Int.reduceLT, Int.reduceEq, Int.reduceNe, Nat.reduceLeDiff, Int.reducePow, Nat.reducePow, Nat.reduceLT, Nat.reduceSub, Nat.reduceMod, Nat.reduceDiv, slot_neg, slot_pos, T.ag_3, T.ag_88, T.ag_93, T.fo_90_0, T.fo_90_1, T.fo_90_2, T.fo_90_3, T.fo_93_0, T.gf_40, T.gf_41, T.gf_42, T.gf_43, T.gf_44, T.ib_24, T.ib_3, T.ii_3, T.ii_88, T.ip_24, T.ip_3, T.mt_88, T.pl_93, T.s8_3, T.s8_88, T.sl_3, T.sl_88, T.st_3, T.st_88, T.un_3, T.un_88, T.zo_93, T.zv_93, init_a])
  (refine CodeH.seq' (CodeH.of_vc [] hm (by kernel_rfl) ?_); simp (config := { dsimp := false, maxSteps := 10000000 }) (disch := omega) only [go_sem, reduceIte, Nat.reduceEqDiff, reduceCtorEq, Nat.reduceAdd, Nat.reduceMul, Int.reduceToNat, Int.reduceLE, Int.reduceLT, Int.reduceEq, Int.reduceNe, Nat.reduceLeDiff, Int.reducePow, Nat.reducePow, Nat.reduceLT, Nat.reduceSub, Nat.reduceMod, Nat.reduceDiv, slot_neg, slot_pos, T.ag_3, T.ag_88, T.ag_93, T.fo_90_0, T.fo_90_1, T.fo_90_2, T.fo_90_3, T.fo_93_0, T.gf_40, T.gf_41, T.gf_42, T.gf_43, T.gf_44, T.ib_24, T.ib_3, T.ii_3, T.ii_88, T.ip_24, T.ip_3, T.mt_88, T.pl_93, T.s8_3, T.s8_88, T.sl_3, T.sl_88, T.st_3, T.st_88, T.un_3, T.un_88, T.zo_93, T.zv_93, init_a, c1, c2, c3, c4])
  refine CodeH.seq (fun r H => r 0 = .pointer (some ⟨p, 0, none⟩) ∧ r 1 = k ∧ r 2 = v ∧ r 3 = .int .i64 keep ∧ CaR isIntV H p id (timeC c at_) ∧ Upd h H [p, id]) (CodeH.of_vc [] hm (by kernel_rfl) ?_) fun r H ⟨q0, q1, q2, q3, hC1, hU1⟩ => ?_
  · simp (config := { dsimp := false, maxSteps := 10000000 }) (disch := omega) only [go_sem, reduceIte, Nat.reduceEqDiff, reduceCtorEq, Nat.reduceAdd, Nat.reduceMul, Int.reduceToNat, Int.reduceLE, Int.reduceLT, Int.reduceEq, Int.reduceNe, Nat.reduceLeDiff, Int.reducePow, Nat.reducePow, Nat.reduceLT, Nat.reduceSub, Nat.reduceMod, Nat.reduceDiv, slot_neg, slot_pos, T.ag_3, T.ag_88, T.ag_93, T.fo_90_0, T.fo_90_1, T.fo_90_2, T.fo_90_3, T.fo_93_0, T.gf_40, T.gf_41, T.gf_42, T.gf_43, T.gf_44, T.ib_24, T.ib_3, T.ii_3, T.ii_88, T.ip_24, T.ip_3, T.mt_88, T.pl_93, T.s8_3, T.s8_88, T.sl_3, T.sl_88, T.st_3, T.st_88, T.un_3, T.un_88, T.zo_93, T.zv_93]
    refine (timeI_ph h p id c at_ hC).mono fun u H ⟨hC1, hU⟩ => ?_
    simp (config := { dsimp := false, maxSteps := 10000000 }) (disch := omega) only [go_sem, reduceIte, Nat.reduceEqDiff, reduceCtorEq, Nat.reduceAdd, Nat.reduceMul, Int.reduceToNat, Int.reduceLE, Int.reduceLT, Int.reduceEq, Int.reduceNe, Nat.reduceLeDiff, Int.reducePow, Nat.reducePow, Nat.reduceLT, Nat.reduceSub, Nat.reduceMod, Nat.reduceDiv, slot_neg, slot_pos, T.ag_3, T.ag_88, T.ag_93, T.fo_90_0, T.fo_90_1, T.fo_90_2, T.fo_90_3, T.fo_93_0, T.gf_40, T.gf_41, T.gf_42, T.gf_43, T.gf_44, T.ib_24, T.ib_3, T.ii_3, T.ii_88, T.ip_24, T.ip_3, T.mt_88, T.pl_93, T.s8_3, T.s8_88, T.sl_3, T.sl_88, T.st_3, T.st_88, T.un_3, T.un_88, T.zo_93, T.zv_93]
    exact ⟨hC1, hU⟩
  refine CodeH.seq (fun r H => r 0 = .pointer (some ⟨p, 0, none⟩) ∧ r 1 = k ∧ r 2 = v ∧ r 3 = .int .i64 keep ∧ CaR isIntV H p id (without (timeC c at_) k) ∧ Upd h H [p, id]) (CodeH.of_vc [] hm (by kernel_rfl) ?_) fun r2 H2 ⟨q0, q1, q2, q3, hC2, hU2⟩ => ?_
  · obtain ⟨hpn, hpi, hp, cl, hM⟩ := hC1
    by_cases hex : ∃ x ∈ (timeC c at_).l, x.key = k
    · obtain ⟨x, hx, rfl⟩ := hex
      obtain ⟨i, hi⟩ := List.getElem?_of_mem hx
      have hf := find_some kind_int _ 0 i x hM.keys hM.one hi
      simp (config := { dsimp := false, maxSteps := 10000000 }) (disch := omega) only [go_sem, reduceIte, Nat.reduceEqDiff, reduceCtorEq, Nat.reduceAdd, Nat.reduceMul, Int.reduceToNat, Int.reduceLE, Int.reduceLT, Int.reduceEq, Int.reduceNe, Nat.reduceLeDiff, Int.reducePow, Nat.reducePow, Nat.reduceLT, Nat.reduceSub, Nat.reduceMod, Nat.reduceDiv, slot_neg, slot_pos, T.ag_3, T.ag_88, T.ag_93, T.fo_90_0, T.fo_90_1, T.fo_90_2, T.fo_90_3, T.fo_93_0, T.gf_40, T.gf_41, T.gf_42, T.gf_43, T.gf_44, T.ib_24, T.ib_3, T.ii_3, T.ii_88, T.ip_24, T.ip_3, T.mt_88, T.pl_93, T.s8_3, T.s8_88, T.sl_3, T.sl_88, T.st_3, T.st_88, T.un_3, T.un_88, T.zo_93, T.zv_93, q0, q1, q2, q3, hp, caC, hM.at_, hf]
      rw [ents_erase, erase_key kind_int hM hi]
      exact ⟨hkt, CaR.turn ⟨hpn, hpi, hp, cl, hM⟩ (List.filter_sublist ..) hM.at_, hU1.put (.inl (by simp))⟩
    · have hex' : ∀ x ∈ (timeC c at_).l, x.key ≠ k := fun x hx e => hex ⟨x, hx, e⟩
      have hf := find_none kind_int hk _ 0 hM.keys hex'
      simp (config := { dsimp := false, maxSteps := 10000000 }) (disch := omega) only [go_sem, reduceIte, Nat.reduceEqDiff, reduceCtorEq, Nat.reduceAdd, Nat.reduceMul, Int.reduceToNat, Int.reduceLE, Int.reduceLT, Int.reduceEq, Int.reduceNe, Nat.reduceLeDiff, Int.reducePow, Nat.reducePow, Nat.reduceLT, Nat.reduceSub, Nat.reduceMod, Nat.reduceDiv, slot_neg, slot_pos, T.ag_3, T.ag_88, T.ag_93, T.fo_90_0, T.fo_90_1, T.fo_90_2, T.fo_90_3, T.fo_93_0, T.gf_40, T.gf_41, T.gf_42, T.gf_43, T.gf_44, T.ib_24, T.ib_3, T.ii_3, T.ii_88, T.ip_24, T.ip_3, T.mt_88, T.pl_93, T.s8_3, T.s8_88, T.sl_3, T.sl_88, T.st_3, T.st_88, T.un_3, T.un_88, T.zo_93, T.zv_93, q0, q1, q2, q3, hp, caC, hM.at_, hf]
      have e : (timeC c at_).l = (without (timeC c at_) k).l := (List.filter_eq_self.2 fun x hx => by rw [keq_no kind_int hk (hM.keys x hx) (fun e => hex' x hx e.symm)]; rfl).symm
      rw [e]
      exact ⟨hkt, CaR.turn ⟨hpn, hpi, hp, cl, hM⟩ (List.filter_sublist ..) hM.at_, hU1.put (.inl (by simp))⟩
  clear hC1 hU1
  obtain ⟨c2, hc2⟩ : ∃ c2, without (timeC c at_) k = c2 := ⟨_, rfl⟩
  have hput : ∀ b, putS c k v keep at_ b one = if keep = 0 then c2 else { c2 with l := (if c2.most ≤ c2.l.length then dropMin c2.l else c2.l) ++ [⟨k, v, c2.now + keep, c2.puts + 1, b, one⟩], puts := c2.puts + 1 } := fun b => by rw [← hc2]; rfl
  have hO2 : CaOk c2 := by rw [← hc2]; exact (hO.time at_).without k
  have hkf : ∀ x ∈ c2.l, x.key ≠ k := fun x hx e => by
    rw [← hc2] at hx
    have := (List.mem_filter.1 hx).2
    rw [e, keq_yes kind_int hk] at this; cases this
  have hp2 : c2.puts = c.puts := by rw [← hc2]; rfl
  rw [hc2] at hC2
  clear hc2 hC
  by_cases hk0 : keep = 0
  · subst hk0
    have hput := hput 0
    rw [if_pos rfl] at hput
    refine CodeH.seq (fun r H => False) (CodeH.of_vc [] hm (by kernel_rfl) ?_) fun r H hF => hF.elim
    simp (config := { dsimp := false, maxSteps := 10000000 }) (disch := omega) only [go_sem, reduceIte, Nat.reduceEqDiff, reduceCtorEq, Nat.reduceAdd, Nat.reduceMul, Int.reduceToNat, Int.reduceLE, Int.reduceLT, Int.reduceEq, Int.reduceNe, Nat.reduceLeDiff, Int.reducePow, Nat.reducePow, Nat.reduceLT, Nat.reduceSub, Nat.reduceMod, Nat.reduceDiv, slot_neg, slot_pos, T.ag_3, T.ag_88, T.ag_93, T.fo_90_0, T.fo_90_1, T.fo_90_2, T.fo_90_3, T.fo_93_0, T.gf_40, T.gf_41, T.gf_42, T.gf_43, T.gf_44, T.ib_24, T.ib_3, T.ii_3, T.ii_88, T.ip_24, T.ip_3, T.mt_88, T.pl_93, T.s8_3, T.s8_88, T.sl_3, T.sl_88, T.st_3, T.st_88, T.un_3, T.un_88, T.zo_93, T.zv_93, q0, q1, q2, q3]
    exact ⟨⟨0, hput ▸ hC2⟩, hU2⟩
  have c5 : (keep = 0) = False := eq_false hk0
  refine CodeH.seq (fun r H => r 0 = .pointer (some ⟨p, 0, none⟩) ∧ r 1 = k ∧ r 2 = v ∧ r 3 = .int .i64 keep ∧ H = H2) (CodeH.of_vc [] hm (by kernel_rfl) ?_) fun r3 H3 ⟨q0, q1, q2, q3, e2⟩ => ?_
  · simp (config := { dsimp := false, maxSteps := 10000000 }) (disch := omega) only [go_sem, reduceIte, Nat.reduceEqDiff, reduceCtorEq, Nat.reduceAdd, Nat.reduceMul, Int.reduceToNat, Int.reduceLE, Int.reduceLT, Int.reduceEq, Int.reduceNe, Nat.reduceLeDiff, Int.reducePow, Nat.reducePow, Nat.reduceLT, Nat.reduceSub, Nat.reduceMod, Nat.reduceDiv, slot_neg, slot_pos, T.ag_3, T.ag_88, T.ag_93, T.fo_90_0, T.fo_90_1, T.fo_90_2, T.fo_90_3, T.fo_93_0, T.gf_40, T.gf_41, T.gf_42, T.gf_43, T.gf_44, T.ib_24, T.ib_3, T.ii_3, T.ii_88, T.ip_24, T.ip_3, T.mt_88, T.pl_93, T.s8_3, T.s8_88, T.sl_3, T.sl_88, T.st_3, T.st_88, T.un_3, T.un_88, T.zo_93, T.zv_93, q0, q1, q2, q3, c5]
  subst e2
  refine CodeH.seq (fun r H => r 0 = .pointer (some ⟨p, 0, none⟩) ∧ r 1 = k ∧ r 2 = v ∧ r 3 = .int .i64 keep ∧ CaR isIntV H p id { c2 with l := if c2.most ≤ c2.l.length then dropMin c2.l else c2.l } ∧ Upd h H [p, id]) (CodeH.of_vc [] hm (by kernel_rfl) ?_) fun r4 H4 ⟨q0, q1, q2, q3, hC4, hU4⟩ => ?_
  · obtain ⟨hpn, hpi, hp, cl, hM⟩ := hC2
    have hel : (ents c2.l).length = c2.l.length := by unfold ents; rw [List.length_map]
    by_cases hb : c2.most ≤ (c2.l.length : Int)
    · have hb' := eq_true hb
      rw [if_pos hb]
      simp (config := { dsimp := false, maxSteps := 10000000 }) (disch := omega) only [go_sem, reduceIte, Nat.reduceEqDiff, reduceCtorEq, Nat.reduceAdd, Nat.reduceMul, Int.reduceToNat, Int.reduceLE, Int.reduceLT, Int.reduceEq, Int.reduceNe, Nat.reduceLeDiff, Int.reducePow, Nat.reducePow, Nat.reduceLT, Nat.reduceSub, Nat.reduceMod, Nat.reduceDiv, slot_neg, slot_pos, T.ag_3, T.ag_88, T.ag_93, T.fo_90_0, T.fo_90_1, T.fo_90_2, T.fo_90_3, T.fo_93_0, T.gf_40, T.gf_41, T.gf_42, T.gf_43, T.gf_44, T.ib_24, T.ib_3, T.ii_3, T.ii_88, T.ip_24, T.ip_3, T.mt_88, T.pl_93, T.s8_3, T.s8_88, T.sl_3, T.sl_88, T.st_3, T.st_88, T.un_3, T.un_88, T.zo_93, T.zv_93, q0, q1, q2, q3, hp, caC, hM.at_, hel, hb']
      have hidn := hM.lt
      have hbl : c2.l.length ≤ 10000 := by have := hO2.len; omega
      refine (ValuesI_ph H3 id).mono fun u Ha ⟨e1, e2⟩ => ?_
      subst e1
      have gb : Ha.get H3.next = .live (.cells [.map (some id)] .own) := by rw [e2, get_alloc, if_pos rfl]
      have ua : Upd H3 Ha [] := by rw [e2]; exact Upd.alloc _ _ _
      have na : Ha.next = H3.next + 1 := by rw [e2]; rfl
      clear e2
      simp (config := { dsimp := false, maxSteps := 10000000 }) (disch := omega) only [go_sem, reduceIte, Nat.reduceEqDiff, reduceCtorEq, Nat.reduceAdd, Nat.reduceMul, Int.reduceToNat, Int.reduceLE, Int.reduceLT, Int.reduceEq, Int.reduceNe, Nat.reduceLeDiff, Int.reducePow, Nat.reducePow, Nat.reduceLT, Nat.reduceSub, Nat.reduceMod, Nat.reduceDiv, slot_neg, slot_pos, T.ag_3, T.ag_88, T.ag_93, T.fo_90_0, T.fo_90_1, T.fo_90_2, T.fo_90_3, T.fo_93_0, T.gf_40, T.gf_41, T.gf_42, T.gf_43, T.gf_44, T.ib_24, T.ib_3, T.ii_3, T.ii_88, T.ip_24, T.ip_3, T.mt_88, T.pl_93, T.s8_3, T.s8_88, T.sl_3, T.sl_88, T.st_3, T.st_88, T.un_3, T.un_88, T.zo_93, T.zv_93, q0, q1, q2, q3]
      refine (CollectI_ph Ha H3.next id c2.l cl hM.born hM.clock hbl .own gb ((ua.2 id hidn (by simp)).trans hM.at_) (by omega) (by omega)).mono fun u Hb ⟨s, D, hsp, hrow, hDn, ub⟩ => ?_
      simp (config := { dsimp := false, maxSteps := 10000000 }) (disch := omega) only [go_sem, reduceIte, Nat.reduceEqDiff, reduceCtorEq, Nat.reduceAdd, Nat.reduceMul, Int.reduceToNat, Int.reduceLE, Int.reduceLT, Int.reduceEq, Int.reduceNe, Nat.reduceLeDiff, Int.reducePow, Nat.reducePow, Nat.reduceLT, Nat.reduceSub, Nat.reduceMod, Nat.reduceDiv, slot_neg, slot_pos, T.ag_3, T.ag_88, T.ag_93, T.fo_90_0, T.fo_90_1, T.fo_90_2, T.fo_90_3, T.fo_93_0, T.gf_40, T.gf_41, T.gf_42, T.gf_43, T.gf_44, T.ib_24, T.ib_3, T.ii_3, T.ii_88, T.ip_24, T.ip_3, T.mt_88, T.pl_93, T.s8_3, T.s8_88, T.sl_3, T.sl_88, T.st_3, T.st_88, T.un_3, T.un_88, T.zo_93, T.zv_93, q0, q1, q2, q3]
      have hsl : s.length = c2.l.length := hsp.length_eq
      refine (MinI_ph Hb u s hrow.row (fun A n st e => ?_) ?_ (by omega)).mono fun u2 Hc ⟨uc, x, hxs, hu2, hmin⟩ => ?_
      · rcases hrow with ⟨e1, _, _⟩ | ⟨q, off, vs, _, hq, e1, _⟩ <;> rw [e] at e1 <;> cases e1
        exact hq
      · have := hO2.most; omega
      subst hu2
      have hx1 := x.one
      have hxc : x.agg.cells = #[x.key, x.val, .int .i64 x.goes, .int .i64 x.put] := cells_agg
      simp (config := { dsimp := false, maxSteps := 10000000 }) (disch := omega) only [go_sem, reduceIte, Nat.reduceEqDiff, reduceCtorEq, Nat.reduceAdd, Nat.reduceMul, Int.reduceToNat, Int.reduceLE, Int.reduceLT, Int.reduceEq, Int.reduceNe, Nat.reduceLeDiff, Int.reducePow, Nat.reducePow, Nat.reduceLT, Nat.reduceSub, Nat.reduceMod, Nat.reduceDiv, slot_neg, slot_pos, T.ag_3, T.ag_88, T.ag_93, T.fo_90_0, T.fo_90_1, T.fo_90_2, T.fo_90_3, T.fo_93_0, T.gf_40, T.gf_41, T.gf_42, T.gf_43, T.gf_44, T.ib_24, T.ib_3, T.ii_3, T.ii_88, T.ip_24, T.ip_3, T.mt_88, T.pl_93, T.s8_3, T.s8_88, T.sl_3, T.sl_88, T.st_3, T.st_88, T.un_3, T.un_88, T.zo_93, T.zv_93, q0, q1, q2, q3, hxc, hx1.1, hx1.2]
      obtain ⟨Hd, hHd⟩ : ∃ Hd, (Hc.alloc (.cells [.int .i64 0, .int .i64 0, .int .i64 0, .int .i64 0] .own)).put Hc.next (.live (.cells [x.key, x.val, .int .i64 x.goes, .int .i64 x.put] .own)) = Hd := ⟨_, rfl⟩
      rw [hHd]
      have ud : Upd Hc Hd [] := by rw [← hHd]; exact ((Upd.refl _ _).allocs).put (.inr (Nat.le_refl _))
      have gd : Hd.get Hc.next = .live (.cells [x.key, x.val, .int .i64 x.goes, .int .i64 x.put] .own) := by rw [← hHd, get_put, if_pos rfl]
      clear hHd
      have uall : Upd H3 Hd [] := ((ua.trans ub (by simp)).trans uc (by simp)).trans ud (by simp)
      have hpd := (uall.2 p hpn (by simp)).trans hp
      have hMd : MapT isIntV Hd id c2.l cl := hM.upd uall (by simp)
      have hxl : x ∈ c2.l := hsp.subset hxs
      obtain ⟨i, hi⟩ := List.getElem?_of_mem hxl
      have hf := find_some kind_int _ 0 i x hM.keys hM.one hi
      refine draw_plan0 (.takeS 0 (.takeS 1 (.takeS 2 (.takeS 3 (.takeS 4 (.takeS 5 (.alt 6 .done .stop))))))) hm (by kernel_rfl) (by kernel_rfl) ?_
      simp (config := { dsimp := false, maxSteps := 10000000 }) (disch := omega) only [go_sem, reduceIte, Nat.reduceEqDiff, reduceCtorEq, Nat.reduceAdd, Nat.reduceMul, Int.reduceToNat, Int.reduceLE, Int.reduceLT, Int.reduceEq, Int.reduceNe, Nat.reduceLeDiff, Int.reducePow, Nat.reducePow, Nat.reduceLT, Nat.reduceSub, Nat.reduceMod, Nat.reduceDiv, slot_neg, slot_pos, T.ag_3, T.ag_88, T.ag_93, T.fo_90_0, T.fo_90_1, T.fo_90_2, T.fo_90_3, T.fo_93_0, T.gf_40, T.gf_41, T.gf_42, T.gf_43, T.gf_44, T.ib_24, T.ib_3, T.ii_3, T.ii_88, T.ip_24, T.ip_3, T.mt_88, T.pl_93, T.s8_3, T.s8_88, T.sl_3, T.sl_88, T.st_3, T.st_88, T.un_3, T.un_88, T.zo_93, T.zv_93, q0, q1, q2, q3, hpd, caC, gd, hMd.at_, hf]
      rw [ents_erase, erase_key kind_int hM hi, dropMin_eq kind_int hM hO2.asc hxl fun y hy => hmin y (hsp.mem_iff.2 hy)]
      refine ⟨by obtain ⟨s, e⟩ := hM.keys x hxl; rw [e]; rfl, CaR.turn (c := c2) ⟨Nat.lt_of_lt_of_le hpn uall.1, hpi, hpd, cl, hMd⟩ (List.filter_sublist ..) hMd.at_, (hU2.trans uall (by simp)).put (.inl (by simp))⟩
    · have hb' := eq_false hb
      rw [if_neg hb]
      simp (config := { dsimp := false, maxSteps := 10000000 }) (disch := omega) only [go_sem, reduceIte, Nat.reduceEqDiff, reduceCtorEq, Nat.reduceAdd, Nat.reduceMul, Int.reduceToNat, Int.reduceLE, Int.reduceLT, Int.reduceEq, Int.reduceNe, Nat.reduceLeDiff, Int.reducePow, Nat.reducePow, Nat.reduceLT, Nat.reduceSub, Nat.reduceMod, Nat.reduceDiv, slot_neg, slot_pos, T.ag_3, T.ag_88, T.ag_93, T.fo_90_0, T.fo_90_1, T.fo_90_2, T.fo_90_3, T.fo_93_0, T.gf_40, T.gf_41, T.gf_42, T.gf_43, T.gf_44, T.ib_24, T.ib_3, T.ii_3, T.ii_88, T.ip_24, T.ip_3, T.mt_88, T.pl_93, T.s8_3, T.s8_88, T.sl_3, T.sl_88, T.st_3, T.st_88, T.un_3, T.un_88, T.zo_93, T.zv_93, q0, q1, q2, q3, hp, caC, hM.at_, hel, hb']
      exact ⟨⟨hpn, hpi, hp, cl, hM⟩, hU2⟩
  obtain ⟨hpn, hpi, hp, cl, hM⟩ := hC4
  obtain ⟨l4, hl4⟩ : ∃ l4, (if c2.most ≤ c2.l.length then dropMin c2.l else c2.l) = l4 := ⟨_, rfl⟩
  rw [hl4] at hM hp
  have hl4s : l4.Sublist c2.l := by
    rw [← hl4]; split
    · exact List.filter_sublist ..
    · exact List.Sublist.refl _
  have w1 : IntKind.i64.wrap (c2.puts + 1) = c2.puts + 1 := i64wrap (by have := hO2.puts; omega) (by omega)
  have w2 : IntKind.i64.wrap (c2.now + keep) = c2.now + keep := i64wrap (by have := hO2.now; omega) (by have := hO2.now; unfold farC at this; omega)
  refine CodeH.seq (fun r H => r 0 = .pointer (some ⟨p, 0, none⟩) ∧ r 1 = k ∧ r 2 = v ∧ r 3 = .int .i64 keep ∧ H = H4.put p (.live (.cells (caC id { c2 with l := l4, puts := c2.puts + 1 }) .own))) (CodeH.of_vc [] hm (by kernel_rfl) ?_) fun r5 H5 ⟨q0, q1, q2, q3, e5⟩ => ?_
  · simp (config := { dsimp := false, maxSteps := 10000000 }) (disch := omega) only [go_sem, reduceIte, Nat.reduceEqDiff, reduceCtorEq, Nat.reduceAdd, Nat.reduceMul, Int.reduceToNat, Int.reduceLE, Int.reduceLT, Int.reduceEq, Int.reduceNe, Nat.reduceLeDiff, Int.reducePow, Nat.reducePow, Nat.reduceLT, Nat.reduceSub, Nat.reduceMod, Nat.reduceDiv, slot_neg, slot_pos, T.ag_3, T.ag_88, T.ag_93, T.fo_90_0, T.fo_90_1, T.fo_90_2, T.fo_90_3, T.fo_93_0, T.gf_40, T.gf_41, T.gf_42, T.gf_43, T.gf_44, T.ib_24, T.ib_3, T.ii_3, T.ii_88, T.ip_24, T.ip_3, T.mt_88, T.pl_93, T.s8_3, T.s8_88, T.sl_3, T.sl_88, T.st_3, T.st_88, T.un_3, T.un_88, T.zo_93, T.zv_93, q0, q1, q2, q3, hp, caC, w1]
  have hp5 : H5.get p = .live (.cells (caC id { c2 with l := l4, puts := c2.puts + 1 }) .own) := by rw [e5, get_put, if_pos rfl]
  have u5 : Upd H4 H5 [p] := by rw [e5]; exact (Upd.refl _ _).put (.inl (by simp))
  have hM5 : MapT isIntV H5 id l4 cl := hM.upd u5 (by simp; omega)
  have n5 : H5.next = H4.next := by rw [e5]; rfl
  clear e5
  have hf := find_none kind_int hk l4 0 hM5.keys fun x hx => hkf x (hl4s.subset hx)
  refine CodeH.seq (fun r H => H = H5.put id (.live (.map (ents (l4 ++ [⟨k, v, c2.now + keep, c2.puts + 1, cl, one⟩])) (cl + 1) .own))) (CodeH.of_vc [] hm (by kernel_rfl) ?_) fun r6 H6 e6 => ?_
  · simp (config := { dsimp := false, maxSteps := 10000000 }) (disch := omega) only [go_sem, reduceIte, Nat.reduceEqDiff, reduceCtorEq, Nat.reduceAdd, Nat.reduceMul, Int.reduceToNat, Int.reduceLE, Int.reduceLT, Int.reduceEq, Int.reduceNe, Nat.reduceLeDiff, Int.reducePow, Nat.reducePow, Nat.reduceLT, Nat.reduceSub, Nat.reduceMod, Nat.reduceDiv, slot_neg, slot_pos, T.ag_3, T.ag_88, T.ag_93, T.fo_90_0, T.fo_90_1, T.fo_90_2, T.fo_90_3, T.fo_93_0, T.gf_40, T.gf_41, T.gf_42, T.gf_43, T.gf_44, T.ib_24, T.ib_3, T.ii_3, T.ii_88, T.ip_24, T.ip_3, T.mt_88, T.pl_93, T.s8_3, T.s8_88, T.sl_3, T.sl_88, T.st_3, T.st_88, T.un_3, T.un_88, T.zo_93, T.zv_93, q0, q1, q2, q3, hp5, caC]
    refine draw_plan0 (.takeS 0 (.takeS 1 (.takeS 2 (.takeS 3 (.takeS 4 (.takeS 5 (.takeS 6 (.takeS 7 (.takeS 8 (.takeS 9 (.takeS 10 (.takeS 11 (.takeS 12 (.takeS 13 (.takeS 14 (.takeS 15 (.takeS 16 (.takeS 17 (.alt 18 .done .stop))))))))))))))))))) hm (by kernel_rfl) (by kernel_rfl) ?_
    simp (config := { dsimp := false, maxSteps := 10000000 }) (disch := omega) only [go_sem, reduceIte, Nat.reduceEqDiff, reduceCtorEq, Nat.reduceAdd, Nat.reduceMul, Int.reduceToNat, Int.reduceLE, Int.reduceLT, Int.reduceEq, Int.reduceNe, Nat.reduceLeDiff, Int.reducePow, Nat.reducePow, Nat.reduceLT, Nat.reduceSub, Nat.reduceMod, Nat.reduceDiv, slot_neg, slot_pos, T.ag_3, T.ag_88, T.ag_93, T.fo_90_0, T.fo_90_1, T.fo_90_2, T.fo_90_3, T.fo_93_0, T.gf_40, T.gf_41, T.gf_42, T.gf_43, T.gf_44, T.ib_24, T.ib_3, T.ii_3, T.ii_88, T.ip_24, T.ip_3, T.mt_88, T.pl_93, T.s8_3, T.s8_88, T.sl_3, T.sl_88, T.st_3, T.st_88, T.un_3, T.un_88, T.zo_93, T.zv_93, q0, q1, q2, q3, hp5, caC, hM5.at_, hf, w2, hkc, hvc]
    exact ⟨hkt, by unfold ents; rw [List.map_append]; rfl⟩
  (refine CodeH.of_vc [] hm (by kernel_rfl) ?_; simp (config := { dsimp := false, maxSteps := 10000000 }) (disch := omega) only [go_sem, reduceIte, Nat.reduceEqDiff, reduceCtorEq, Nat.reduceAdd, Nat.reduceMul, Int.reduceToNat, Int.reduceLE, Int.reduceLT, Int.reduceEq, Int.reduceNe, Nat.reduceLeDiff, Int.reducePow, Nat.reducePow, Nat.reduceLT, Nat.reduceSub, Nat.reduceMod, Nat.reduceDiv, slot_neg, slot_pos, T.ag_3, T.ag_88, T.ag_93, T.fo_90_0, T.fo_90_1, T.fo_90_2, T.fo_90_3, T.fo_93_0, T.gf_40, T.gf_41, T.gf_42, T.gf_43, T.gf_44, T.ib_24, T.ib_3, T.ii_3, T.ii_88, T.ip_24, T.ip_3, T.mt_88, T.pl_93, T.s8_3, T.s8_88, T.sl_3, T.sl_88, T.st_3, T.st_88, T.un_3, T.un_88, T.zo_93, T.zv_93, init_a])
  rw [e6]
  refine ⟨⟨cl, ?_⟩, ((hU4.trans (u5.mono (G := [p, id]) (by simp)) (by simp)).put (.inl (by simp)))⟩
  rw [hput, if_neg hk0]
  rw [hl4]
  exact ⟨by rw [next_put]; omega, hpi, by rw [get_put, if_neg hpi]; exact hp5, cl + 1, hM5.add hk (fun x hx => hkf x (hl4s.subset hx)) _ rfl rfl⟩
theorem PutEI_ph (h : Heap) (v0 k v : Value) (keep at_ : Int) (hv0 : v0 = .pointer none ∨ ((∃ p, v0 = .pointer (some ⟨p, 0, none⟩)) ∧ (keep < 0 ∨ farC < keep ∨ at_ < 0 ∨ farC < at_))) :
    @CallsH Try.prog 11 #[v0, k, v, .int .i64 keep, .int .i64 at_] h ⟨fun u H => u = .int .i64 1 ∧ H = h⟩ := by
  rcases hv0 with rfl | ⟨⟨p, rfl⟩, hb⟩
  · (refine calls_of_vc [] hm Try.func11 rfl (ts := [10]) rfl (by kernel_rfl) (by simp) ?_; simp (config := { dsimp := false, maxSteps := 10000000 }) (disch := omega) only [go_sem, reduceIte, Nat.reduceEqDiff, reduceCtorEq, Nat.reduceAdd, Nat.reduceMul, Int.reduceToNat, Int.reduceLE, Int.reduceLT, Int.reduceEq, Int.reduceNe, Nat.reduceLeDiff, Int.reducePow, Nat.reducePow, Nat.reduceLT, Nat.reduceSub, Nat.reduceMod, Nat.reduceDiv, slot_neg, slot_pos, T.ag_3, T.ag_88, T.ag_93, T.fo_90_0, T.fo_90_1, T.fo_90_2, T.fo_90_3, T.fo_93_0, T.gf_40, T.gf_41, T.gf_42, T.gf_43, T.gf_44, T.ib_24, T.ib_3, T.ii_3, T.ii_88, T.ip_24, T.ip_3, T.mt_88, T.pl_93, T.s8_3, T.s8_88, T.sl_3, T.sl_88, T.st_3, T.st_88, T.un_3, T.un_88, T.zo_93, T.zv_93, init_a])
  · unfold farC at hb
    by_cases c1 : keep < 0
    · (refine calls_of_vc [] hm Try.func11 rfl (ts := [10]) rfl (by kernel_rfl) (by simp) ?_; simp (config := { dsimp := false, maxSteps := 10000000 }) (disch := omega) only [go_sem, reduceIte, Nat.reduceEqDiff, reduceCtorEq, Nat.reduceAdd, Nat.reduceMul, Int.reduceToNat, Int.reduceLE, Int.reduceLT, Int.reduceEq, Int.reduceNe, Nat.reduceLeDiff, Int.reducePow, Nat.reducePow, Nat.reduceLT, Nat.reduceSub, Nat.reduceMod, Nat.reduceDiv, slot_neg, slot_pos, T.ag_3, T.ag_88, T.ag_93, T.fo_90_0, T.fo_90_1, T.fo_90_2, T.fo_90_3, T.fo_93_0, T.gf_40, T.gf_41, T.gf_42, T.gf_43, T.gf_44, T.ib_24, T.ib_3, T.ii_3, T.ii_88, T.ip_24, T.ip_3, T.mt_88, T.pl_93, T.s8_3, T.s8_88, T.sl_3, T.sl_88, T.st_3, T.st_88, T.un_3, T.un_88, T.zo_93, T.zv_93, init_a, c1])
    · by_cases c2 : 1099511627776 < keep
      · (refine calls_of_vc [] hm Try.func11 rfl (ts := [10]) rfl (by kernel_rfl) (by simp) ?_; simp (config := { dsimp := false, maxSteps := 10000000 }) (disch := omega) only [go_sem, reduceIte, Nat.reduceEqDiff, reduceCtorEq, Nat.reduceAdd, Nat.reduceMul, Int.reduceToNat, Int.reduceLE, Int.reduceLT, Int.reduceEq, Int.reduceNe, Nat.reduceLeDiff, Int.reducePow, Nat.reducePow, Nat.reduceLT, Nat.reduceSub, Nat.reduceMod, Nat.reduceDiv, slot_neg, slot_pos, T.ag_3, T.ag_88, T.ag_93, T.fo_90_0, T.fo_90_1, T.fo_90_2, T.fo_90_3, T.fo_93_0, T.gf_40, T.gf_41, T.gf_42, T.gf_43, T.gf_44, T.ib_24, T.ib_3, T.ii_3, T.ii_88, T.ip_24, T.ip_3, T.mt_88, T.pl_93, T.s8_3, T.s8_88, T.sl_3, T.sl_88, T.st_3, T.st_88, T.un_3, T.un_88, T.zo_93, T.zv_93, init_a, c1, c2])
      · by_cases c3 : at_ < 0
        · (refine calls_of_vc [] hm Try.func11 rfl (ts := [10]) rfl (by kernel_rfl) (by simp) ?_; simp (config := { dsimp := false, maxSteps := 10000000 }) (disch := omega) only [go_sem, reduceIte, Nat.reduceEqDiff, reduceCtorEq, Nat.reduceAdd, Nat.reduceMul, Int.reduceToNat, Int.reduceLE, Int.reduceLT, Int.reduceEq, Int.reduceNe, Nat.reduceLeDiff, Int.reducePow, Nat.reducePow, Nat.reduceLT, Nat.reduceSub, Nat.reduceMod, Nat.reduceDiv, slot_neg, slot_pos, T.ag_3, T.ag_88, T.ag_93, T.fo_90_0, T.fo_90_1, T.fo_90_2, T.fo_90_3, T.fo_93_0, T.gf_40, T.gf_41, T.gf_42, T.gf_43, T.gf_44, T.ib_24, T.ib_3, T.ii_3, T.ii_88, T.ip_24, T.ip_3, T.mt_88, T.pl_93, T.s8_3, T.s8_88, T.sl_3, T.sl_88, T.st_3, T.st_88, T.un_3, T.un_88, T.zo_93, T.zv_93, init_a, c1, c2, c3])
        · have c4 : 1099511627776 < at_ := by omega
          (refine calls_of_vc [] hm Try.func11 rfl (ts := [10]) rfl (by kernel_rfl) (by simp) ?_; simp (config := { dsimp := false, maxSteps := 10000000 }) (disch := omega) only [go_sem, reduceIte, Nat.reduceEqDiff, reduceCtorEq, Nat.reduceAdd, Nat.reduceMul, Int.reduceToNat, Int.reduceLE, Int.reduceLT, Int.reduceEq, Int.reduceNe, Nat.reduceLeDiff, Int.reducePow, Nat.reducePow, Nat.reduceLT, Nat.reduceSub, Nat.reduceMod, Nat.reduceDiv, slot_neg, slot_pos, T.ag_3, T.ag_88, T.ag_93, T.fo_90_0, T.fo_90_1, T.fo_90_2, T.fo_90_3, T.fo_93_0, T.gf_40, T.gf_41, T.gf_42, T.gf_43, T.gf_44, T.ib_24, T.ib_3, T.ii_3, T.ii_88, T.ip_24, T.ip_3, T.mt_88, T.pl_93, T.s8_3, T.s8_88, T.sl_3, T.sl_88, T.st_3, T.st_88, T.un_3, T.un_88, T.zo_93, T.zv_93, init_a, c1, c2, c3, c4])

end Ph
