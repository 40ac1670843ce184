import Derived.Test.YtliblomkhapibaaL24
set_option maxRecDepth 100000
set_option maxHeartbeats 4000000
set_option linter.unusedSimpArgs false
set_option linter.unusedVariables false
namespace Ph
open Go Go.Proofs
attribute [local irreducible] Value.cells
attribute [local go_sem ↓] y_move y_assign y_pick y_nil y_bin y_un y_fa y_field y_ext y_ia y_ix y_slice y_build y_mf y_load y_len y_min y_max y_conv y_bs y_mk y_alloc y_box y_store y_clear y_app y_callf y_callt s_move s_assign s_pick s_nil s_bin s_un s_fa s_field s_ext s_ia s_ix s_slice s_conv s_build s_bs s_mf s_alloc s_box s_load s_store s_len s_clear s_min s_max s_app s_call q_call q_move q_assign q_pick q_nil q_bin q_un q_fa q_field q_ext q_ia q_ix q_slice q_conv q_build q_mf q_load q_len q_min q_max l_nil l_move l_assign l_pick l_nilc l_bin l_un l_fa l_field l_ext l_ia l_ix l_slice l_conv l_build l_mf l_load l_len l_min l_max l_call put_eq putN_eq o_nil o_plain o_gate v_nil v_plain v_gate vc_skip vc_region vc_seq vc_cond vc_block vc_loop vc_rf vc_exit vc_ret blk_normal blk_ret blk_exit on_normal on_ret on_exit vc_drawn draw_q s_mk l_bs l_mk l_alloc l_box l_store l_app l_clear pl_done pl_takeS pl_take pl_alt pl_stop one_plain one_gate
attribute [local go_sem] clear_nil clear_sl onAgg_a onTuple_t onFn_f onFn_y onFunc_f c_int c_nil c_sl c_str sl_sl sl_nil sl_str ix_str ix_agg n_nil n_sl n_str app_eq k_nil k_sl len_sl len_str upd_some upd_none ev_tmp ev_const ev_func rd_some gdst_eq otmp_t otmp_c get_put get_alloc next_put next_alloc get_app next_app init_a resV1 resV2 onPtr_ptr onBool_b onInt_i onSlice_s onSome_s onCells_c lett_eq gate_tt gate_tf gate_ff gate_ft gate_dt gate_df also_eq bin un minmax io_none io_some bo_none bo_some partOf List.getElem?_cons_zero List.getElem?_cons_succ List.getElem?_toArray Option.map_some Option.map_none Option.bind_some ne_eq not_true_eq_false not_false_eq_true false_implies true_implies and_true true_and and_self Bool.false_eq_true Nat.zero_add Nat.add_zero List.size_toArray List.length_cons List.length_nil List.map_toArray List.map_cons List.map_nil Array.getD_eq_getD_getElem? Option.getD_some Bool.not_true Bool.not_false Bool.not_eq_true Option.isNone_some Option.isNone_none List.append_toArray List.append_nil List.nil_append List.cons_append decide_true decide_false in_nil in_cons Bool.and_false Bool.and_true Bool.or_false Bool.true_or Bool.false_or get_mask next_mask get_unmask next_unmask ac_move ac_assign ac_pick ac_nil ac_bin ac_un ac_fa ac_field ac_ext ac_ia ac_ix ac_slice ac_build ac_mf ac_call ac_load ac_conv accP_p accS_s accS_n accS_i accS_t fixed_ro fixed_lock fixed_own get_ro next_ro lock_live' lock_cells List.mem_cons List.not_mem_nil or_false false_or or_true true_or and_false false_and IntKind.bits Int.natCast_zero Int.natCast_one size_str data_str list_str mk_str ext_str app_str bytes_str w_byte w_byteu Int.toNat_natCast Int.toNat_zero Int.toNat_one Nat.sub_zero ge_iff_le gt_iff_lt Nat.le_refl Int.le_refl List.drop_zero Int.ofNat_eq_natCast Int.natCast_nonneg Int.sub_zero oc_int oc_bool oc_str oc_ptr oc_sl oc_map oc_func List.set_cons_zero List.set_cons_succ Nat.mul_one List.all_cons List.all_nil Bool.and_self res_nil res_tmp res_cell tup_one tup_two tup_nil fill_nil repl_zero cells_agg List.append_eq List.toList_toArray Nat.zero_mul Nat.one_mul repl_one repl_two onSome_build fill_cons onSome_lit splice_eq cells_int cells_bool cells_str cells_ptr cells_sl cells_map cells_func loadK_n loadK_s load_k storeK_n storeK_s store_k all_arr List.take_zero List.take_succ_cons List.drop_succ_cons List.take_nil List.drop_nil lk_own lk_ro lk_lock lk_lk fixed_lk gate_nt gate_nf gate3_b gate3_u undef Bool.true_and Bool.false_and nx_l nx_r nx_lt put_put resV0
/-! LossEvents: the document's state: a list of packets, those that wait among them. -/
/-- one cell of one of a row's things is written anew -/
theorem RowV.setj {α : Type} {E : Enc α} {vs : List Value} {off : Nat} {l : List α} (h : RowV E vs off l) {i j : Nat} {x y : α} {v : Value} (hx : l[i]? = some x) (hj : j < E.k) (hy : E.enc y = (E.enc x).set j v) : RowV E (vs.set (off + i * E.k + j) v) off (l.set i y) := by
  have h1 := h.at hx
  have hi := (List.getElem?_eq_some_iff.1 hx).1
  have e : vs.set (off + i * E.k + j) v = vs.take (off + i * E.k) ++ E.enc y ++ vs.drop (off + i * E.k + E.k) := by
    have h0 : vs = vs.take (off + i * E.k) ++ (E.enc x ++ vs.drop (off + i * E.k + E.k)) := by
      have := (List.take_append_drop E.k (vs.drop (off + i * E.k))).symm
      rw [h1.1, List.drop_drop] at this
      rw [← this, List.take_append_drop]
    have hl : (vs.take (off + i * E.k)).length = off + i * E.k := by rw [List.length_take]; omega
    conv => lhs; rw [h0]
    rw [List.set_append, if_neg (by rw [hl]; omega), hl, Nat.add_sub_cancel_left, List.set_append, if_pos (by rw [E.len]; exact hj), hy, List.append_assoc]
  rw [e]; exact h.set hi y
structure RP where
  num : Int
  size : Int
  asks : Bool
  at_ : Int
  on : Bool
def RP.pk (x : RP) : Pk := ⟨x.num, x.size, x.at_, x.asks⟩
def rpE : Enc RP := ⟨5, fun x => [.int .i64 x.num, .int .i64 x.size, .bool x.asks, .int .i64 x.at_, .bool x.on], fun _ => rfl, fun _ => rfl⟩
def refC (w : Value) (s : St) : List Value := [w, .int .i64 s.best, .int .i64 s.smooth, .int .i64 s.vary, .int .i64 s.least, .int .i64 s.last, .bool s.had, .int .i64 s.window, .int .i64 s.mark, .int .i64 s.since, .int .i64 s.tries, .int .i64 s.now]
def RefR (h : Heap) (m : Nat) (D : List Nat) (L : List RP) (s : St) : Prop := m < h.next ∧ m ∉ D ∧ ∃ w, h.get m = .live (.cells (refC w s) .own) ∧ OwnRow rpE h w D L
def RefV (h : Heap) (m : Nat) (L : List RP) (s : St) : Prop := ∃ w o, m < h.next ∧ h.get m = .live (.cells (refC w s) o) ∧ RowIn rpE h w L ∧ ∀ A n st, w = .slice (some A) n st → A.block < h.next
theorem RefR.view {h : Heap} {m : Nat} {D : List Nat} {L : List RP} {s : St} (hR : RefR h m D L s) : RefV h m L s := by
  obtain ⟨h1, h2, w, h3, h4⟩ := hR
  refine ⟨w, .own, h1, h3, h4.row, fun A n st e => ?_⟩
  rcases h4 with ⟨e2, _⟩ | ⟨q, off, vs, _, hq, e2, _⟩
  · rw [e2] at e; cases e
  · rw [e2] at e; cases e; exact hq
theorem RefR.lt {h : Heap} {m : Nat} {D : List Nat} {L : List RP} {s : St} (hR : RefR h m D L s) : ∀ d ∈ D, d < h.next := by
  obtain ⟨h1, h2, w, h3, h4⟩ := hR; exact h4.lt
theorem RefR.upd {h h' : Heap} {m : Nat} {D F : List Nat} {L : List RP} {s : St} (hR : RefR h m D L s) (hu : Upd h h' F) (hp : m ∉ F) (hD : ∀ d ∈ D, d ∉ F) : RefR h' m D L s := by
  obtain ⟨h1, h2, w, h3, h4⟩ := hR
  exact ⟨Nat.lt_of_lt_of_le h1 hu.1, h2, w, (hu.2 _ h1 hp).trans h3, h4.upd hu hD⟩
theorem RefR.put {h : Heap} {m : Nat} {D : List Nat} {L : List RP} {w : Value} {s' : St} (hmn : m < h.next) (hmD : m ∉ D) (hO : OwnRow rpE h w D L) : RefR (h.put m (.live (.cells (refC w s') .own))) m D L s' :=
  ⟨by rw [next_put]; exact hmn, hmD, w, by rw [get_put, if_pos rfl], hO.keep (by rw [next_put]; exact Nat.le_refl _) fun d hd => by rw [get_put, if_neg (fun e : d = m => hmD (e ▸ hd))]⟩
theorem RefV.ro {h : Heap} {m : Nat} {L : List RP} {s : St} (hV : RefV h m L s) : RefV h.ro m L s := by
  obtain ⟨w, o, h1, h2, h3, h4⟩ := hV
  exact ⟨w, _, h1, by rw [get_ro, h2, lock_live', lock_cells], h3.ro, h4⟩
theorem RefV.upd {h h' : Heap} {m : Nat} {L : List RP} {s : St} (hV : RefV h m L s) (hu : Upd h h' []) : RefV h' m L s := by
  obtain ⟨w, o, h1, h2, h3, h4⟩ := hV
  exact ⟨w, o, Nat.lt_of_lt_of_le h1 hu.1, (hu.2 _ h1 (by simp)).trans h2, h3.upd fun A n st e => hu.2 _ (h4 A n st e) (by simp), fun A n st e => Nat.lt_of_lt_of_le (h4 A n st e) hu.1⟩
theorem RefV.form {h : Heap} {m : Nat} {L : List RP} {s : St} (hV : RefV h m L s) : ∃ A st o, m < h.next ∧ h.get m = .live (.cells (refC (.slice A L.length st) s) o) := by
  obtain ⟨w, o, h1, h2, h3, h4⟩ := hV
  obtain ⟨A, st, e⟩ := h3.form
  exact ⟨A, st, o, h1, e ▸ h2⟩
theorem RefV.at {h : Heap} {m : Nat} {L : List RP} {s : St} (hV : RefV h m L s) {k : Nat} {x : RP} (hx : L[k]? = some x) :
    ∃ o q off vs ob, m < h.next ∧ q < h.next ∧ h.get m = .live (.cells (refC (.slice (some ⟨q, off, none⟩) L.length 5) s) o) ∧ h.get q = .live (.cells vs ob) ∧ RowV rpE vs off L ∧ List.take 5 (List.drop (off + k * 5) vs) = rpE.enc x ∧ off + k * 5 + 5 ≤ vs.length := by
  obtain ⟨w, o, h1, h2, h3, h4⟩ := hV
  rcases h3 with ⟨_, hn⟩ | ⟨q, off, vs, ob, e, hq, hR⟩
  · rw [hn] at hx; simp at hx
  · have := hR.at hx
    exact ⟨o, q, off, vs, ob, h1, h4 _ _ _ e, e ▸ h2, hq, hR, this.1, this.2⟩
def waitsOf (L : List RP) : List Pk := (L.filter (·.on)).map RP.pk
def topOf (L : List RP) : Int := match L.getLast? with | none => -1 | some x => x.num
/-- those of which f says so wait no longer -/
def offX (f : Pk → Bool) (x : RP) : RP := if x.on && f x.pk then { x with on := false } else x
theorem waits_off (f : Pk → Bool) (L : List RP) : waitsOf (L.map (offX f)) = (waitsOf L).filter fun x => !f x := by
  induction L with
  | nil => rfl
  | cons x L ih =>
    have ih' : List.map RP.pk (List.filter (·.on) (L.map (offX f))) = ((L.filter (·.on)).map RP.pk).filter (fun x => !f x) := ih
    unfold waitsOf
    rw [List.map_cons, List.filter_cons, List.filter_cons]
    cases hx : x.on with
    | false =>
      have e : offX f x = x := by unfold offX; rw [hx]; rfl
      rw [e, hx]
      simpa using ih'
    | true =>
      cases hf : f x.pk with
      | false =>
        have e : offX f x = x := by unfold offX; rw [hx, hf]; rfl
        rw [e, hx]
        simp only [if_true, List.map_cons, List.filter_cons, hf, Bool.not_false, ih']
      | true =>
        have e : (offX f x).on = false := by unfold offX; rw [hx, hf]; rfl
        rw [e]
        simp only [if_true, List.map_cons, List.filter_cons, hf, Bool.not_true, Bool.false_eq_true, if_false, ih']
theorem waits_take {L : List RP} {k : Nat} {x : RP} (hx : L[k]? = some x) : waitsOf (L.take (k + 1)) = waitsOf (L.take k) ++ if x.on then [x.pk] else [] := by
  unfold waitsOf
  rw [take_next hx, List.filter_append, List.map_append]
  congr 1
  cases hx : x.on <;> simp [hx]
/-- how far one has gone over the list -/
def mid (f : Pk → Bool) (L : List RP) (k : Nat) : List RP := (L.take k).map (offX f) ++ L.drop k
theorem mid_zero (f : Pk → Bool) (L : List RP) : mid f L 0 = L := by simp [mid]
theorem mid_len (f : Pk → Bool) (L : List RP) (k : Nat) : (mid f L k).length = L.length := by simp [mid]; omega
theorem mid_all (f : Pk → Bool) (L : List RP) : mid f L L.length = L.map (offX f) := by simp [mid]
theorem mid_at {f : Pk → Bool} {L : List RP} {k : Nat} {x : RP} (hx : L[k]? = some x) : (mid f L k)[k]? = some x := by
  have hk := (List.getElem?_eq_some_iff.1 hx).1
  unfold mid
  rw [List.getElem?_append_right (by simp; omega)]
  simp only [List.length_map, List.length_take, Nat.min_eq_left (Nat.le_of_lt hk), Nat.sub_self]
  rw [List.getElem?_drop]; simpa using hx
theorem mid_next {f : Pk → Bool} {L : List RP} {k : Nat} {x : RP} (hx : L[k]? = some x) : mid f L (k + 1) = (mid f L k).set k (offX f x) := by
  have hk := List.getElem?_eq_some_iff.1 hx
  unfold mid
  rw [take_next hx, List.map_append, List.drop_eq_getElem_cons hk.1, hk.2, List.set_append]
  simp only [List.length_map, List.length_take, Nat.min_eq_left (Nat.le_of_lt hk.1)]
  rw [if_neg (by omega), Nat.sub_self]
  simp
theorem rwait_ph (h : Heap) (m : Nat) (w : Value) (o : Own) (s : St) (hg : h.get m = .live (.cells (refC w s) o)) (hs : Ok s) :
    @CallsH Try.prog 43 #[.pointer (some ⟨m, 0, none⟩)] h ⟨fun u _ => u = .int .i64 (waitT s)⟩ := by
  have h1 := hs.smooth
  have h2 := hs.last
  have h3 : 0 ≤ max s.smooth s.last ∧ max s.smooth s.last ≤ 1099511627776 := by omega
  have w1 : IntKind.i64.wrap (9 * max s.smooth s.last) = 9 * max s.smooth s.last := by rw [i64wrap] <;> omega
  have w2 : IntKind.i64.wrap ((9 * max s.smooth s.last).tdiv 8) = 9 * max s.smooth s.last / 8 := by rw [tdiv_pos (by omega), i64wrap] <;> omega
  (refine calls_of_vc [] hm Try.func43 rfl (ts := [2]) rfl (by kernel_rfl) (by simp) ?_; simp (config := { dsimp := false }) only [go_sem, reduceIte, Nat.reduceEqDiff, reduceCtorEq, Nat.reduceAdd, Nat.reduceMul, Int.reduceToNat, Int.reduceLE, Int.reduceLT, Int.reduceEq, Int.reduceNe, Nat.reduceLeDiff, Int.reducePow, Nat.reducePow, Nat.reduceLT, Nat.reduceSub, Nat.reduceMod, Nat.reduceDiv, T.ag_3, T.fo_59_2, T.fo_59_5, T.ib_3, T.ip_3, init_a, hg, refC, maxl, w1, w2])
  rfl
theorem rtop_ph (h : Heap) (m : Nat) (L : List RP) (s : St) (hV : RefV h m L s) (hl : L.length ≤ 100000) :
    @CallsH Try.prog 40 #[.pointer (some ⟨m, 0, none⟩)] h ⟨fun u _ => u = .int .i64 (topOf L)⟩ := by
  cases hL : L.getLast? with
  | none =>
    have hn : L = [] := List.getLast?_eq_none_iff.1 hL
    obtain ⟨A, st, o, h1, h2⟩ := hV.form
    rw [hn] at h2
    have e : topOf L = -1 := by unfold topOf; rw [hL]
    rw [e]
    (refine calls_of_vc [] hm Try.func40 rfl (ts := [2]) rfl (by kernel_rfl) (by simp) ?_; simp (config := { dsimp := false }) only [go_sem, reduceIte, Nat.reduceEqDiff, reduceCtorEq, Nat.reduceAdd, Nat.reduceMul, Int.reduceToNat, Int.reduceLE, Int.reduceLT, Int.reduceEq, Int.reduceNe, Nat.reduceLeDiff, Int.reducePow, Nat.reducePow, Nat.reduceLT, Nat.reduceSub, Nat.reduceMod, Nat.reduceDiv, T.ag_3, T.ag_57, T.es_57, T.fo_59_0, T.fo_78_0, T.ib_3, T.ii_57, T.ip_3, T.s8_57, T.sl_57, T.st_57, T.un_57, init_a, h2, refC])
  | some x =>
    have hx : L[L.length - 1]? = some x := by rw [← List.getLast?_eq_getElem?]; exact hL
    have hpos := (List.getElem?_eq_some_iff.1 hx).1
    obtain ⟨o, q, off, vs, ob, h1, h2, h3, h4, hR, h5, h6⟩ := hV.at hx
    have e : topOf L = x.num := by unfold topOf; rw [hL]
    have c1 : ((L.length : Int) = 0) = False := eq_false (by omega)
    have w1 : IntKind.i64.wrap ((L.length : Int) - 1) = ((L.length - 1 : Nat) : Int) := by rw [i64wrap (by omega) (by omega)]; omega
    have y1 : vs[off + (L.length - 1) * 5]? = some (.int .i64 x.num) := hR.cell hx (j := 0) (by decide)
    have c2 : ((L.length - 1 : Nat) : Int) < (L.length : Int) := by omega
    rw [e]
    (refine calls_of_vc [] hm Try.func40 rfl (ts := [2]) rfl (by kernel_rfl) (by simp) ?_; simp (config := { dsimp := false, maxSteps := 10000000 }) (disch := omega) only [go_sem, reduceIte, Nat.reduceEqDiff, reduceCtorEq, Nat.reduceAdd, Nat.reduceMul, Int.reduceToNat, Int.reduceLE, Int.reduceLT, Int.reduceEq, Int.reduceNe, Nat.reduceLeDiff, Int.reducePow, Nat.reducePow, Nat.reduceLT, Nat.reduceSub, Nat.reduceMod, Nat.reduceDiv, slot_neg, slot_pos, T.ag_3, T.ag_57, T.es_57, T.fo_59_0, T.fo_78_0, T.ib_3, T.ii_57, T.ip_3, T.s8_57, T.sl_57, T.st_57, T.un_57, init_a, h3, refC, h4, c1, w1, y1, c2])
theorem within_ph (h : Heap) (v : Value) (l : List Sp) (n : Int) (hr : RowIn spE h v l) (hl : l.length < 9223372036854775807) :
    @CallsH Try.prog 41 #[v, .int .i64 n] h ⟨fun u H => u = .bool (l.any (inSp n))⟩ := by
  obtain ⟨A, st, e⟩ := hr.form
  (refine calls_of_vc [] hm Try.func41 rfl (ts := [4]) rfl (by kernel_rfl) (by simp) ?_; simp (config := { dsimp := false, maxSteps := 10000000 }) (disch := omega) only [go_sem, reduceIte, Nat.reduceEqDiff, reduceCtorEq, Nat.reduceAdd, Nat.reduceMul, Int.reduceToNat, Int.reduceLE, Int.reduceLT, Int.reduceEq, Int.reduceNe, Nat.reduceLeDiff, Int.reducePow, Nat.reducePow, Nat.reduceLT, Nat.reduceSub, Nat.reduceMod, Nat.reduceDiv, slot_neg, slot_pos, T.ag_3, T.es_39, T.fo_42_0, T.fo_42_1, T.ib_3, T.ii_39, T.ip_3, T.s8_39, T.sl_39, T.st_39, T.un_39, init_a])
  refine loop_intro [] hm (fun r H => H = h ∧ ∃ i : Nat, i ≤ l.length ∧ (l.take i).any (inSp n) = false ∧ r 0 = v ∧ r 1 = .int .i64 n ∧ r 5 = .int .i64 i) (fun r _ => match r 5 with | .int _ i => l.length - i.toNat | _ => 0) ?_ ?_
  · exact ⟨rfl, 0, by omega, rfl, by simp [upd, initR], by simp [upd, initR], by simp [upd]⟩
  · rintro r H ⟨hH, i, hi, hany, q0, q1, q5⟩
    subst hH
    by_cases hil : i < l.length
    · have hlt : ((i : Int) < (l.length : Int)) = True := eq_true (by omega)
      have hx : l[i]? = some l[i] := List.getElem?_eq_getElem hil
      rcases id hr with ⟨_, hnil⟩ | ⟨q, off, vs, ob, hv, hq, hR⟩
      · rw [hnil] at hil; simp at hil
      have y1 : vs[off + i * 2]? = some (.int .i64 l[i].fr) := hR.cell hx (j := 0) (by decide)
      have y2 : vs[off + i * 2 + 1]? = some (.int .i64 l[i].to) := hR.cell hx (j := 1) (by decide)
      have hta := take_next hx
      have hmem : l[i] ∈ l := List.getElem_mem _
      generalize l[i] = x at *
      have hK : spE.k = 2 := rfl
      have w1 : IntKind.i64.wrap ((i : Int) + 1) = ((i + 1 : Nat) : Int) := by rw [i64wrap] <;> omega
      have nx : (l.take (i + 1)).any (inSp n) = inSp n x := by rw [hta, List.any_append, hany]; simp
      by_cases c1 : x.fr ≤ n
      · have c1' : (x.fr ≤ n) = True := eq_true c1
        by_cases c2 : n ≤ x.to
        · have c2' : (n ≤ x.to) = True := eq_true c2
          have ht : l.any (inSp n) = true := List.any_eq_true.2 ⟨x, hmem, decide_eq_true ⟨c1, c2⟩⟩
          simp (config := { dsimp := false, maxSteps := 10000000 }) (disch := omega) only [go_sem, reduceIte, Nat.reduceEqDiff, reduceCtorEq, Nat.reduceAdd, Nat.reduceMul, Int.reduceToNat, Int.reduceLE, Int.reduceLT, Int.reduceEq, Int.reduceNe, Nat.reduceLeDiff, Int.reducePow, Nat.reducePow, Nat.reduceLT, Nat.reduceSub, Nat.reduceMod, Nat.reduceDiv, slot_neg, slot_pos, T.ag_3, T.es_39, T.fo_42_0, T.fo_42_1, T.ib_3, T.ii_39, T.ip_3, T.s8_39, T.sl_39, T.st_39, T.un_39, q0, q1, q5, hv, hlt, hq, y1, y2, hK, w1, c1', c2', ht]
        · have c2' : (n ≤ x.to) = False := eq_false c2
          simp (config := { dsimp := false, maxSteps := 10000000 }) (disch := omega) only [go_sem, reduceIte, Nat.reduceEqDiff, reduceCtorEq, Nat.reduceAdd, Nat.reduceMul, Int.reduceToNat, Int.reduceLE, Int.reduceLT, Int.reduceEq, Int.reduceNe, Nat.reduceLeDiff, Int.reducePow, Nat.reducePow, Nat.reduceLT, Nat.reduceSub, Nat.reduceMod, Nat.reduceDiv, slot_neg, slot_pos, T.ag_3, T.es_39, T.fo_42_0, T.fo_42_1, T.ib_3, T.ii_39, T.ip_3, T.s8_39, T.sl_39, T.st_39, T.un_39, q0, q1, q5, hv, hlt, hq, y1, y2, hK, w1, c1', c2']
          exact ⟨⟨i + 1, hil, by rw [nx]; exact decide_eq_false fun h => c2 h.2, rfl⟩, by omega⟩
      · have c1' : (x.fr ≤ n) = False := eq_false c1
        simp (config := { dsimp := false, maxSteps := 10000000 }) (disch := omega) only [go_sem, reduceIte, Nat.reduceEqDiff, reduceCtorEq, Nat.reduceAdd, Nat.reduceMul, Int.reduceToNat, Int.reduceLE, Int.reduceLT, Int.reduceEq, Int.reduceNe, Nat.reduceLeDiff, Int.reducePow, Nat.reducePow, Nat.reduceLT, Nat.reduceSub, Nat.reduceMod, Nat.reduceDiv, slot_neg, slot_pos, T.ag_3, T.es_39, T.fo_42_0, T.fo_42_1, T.ib_3, T.ii_39, T.ip_3, T.s8_39, T.sl_39, T.st_39, T.un_39, q0, q1, q5, hv, hlt, hq, y1, y2, hK, w1, c1']
        exact ⟨⟨i + 1, hil, by rw [nx]; exact decide_eq_false fun h => c1 h.1, rfl⟩, by omega⟩
    · have hlt : ((i : Int) < (l.length : Int)) = False := eq_false (by omega)
      obtain rfl : i = l.length := by omega
      rw [List.take_length] at hany
      simp (config := { dsimp := false, maxSteps := 10000000 }) (disch := omega) only [go_sem, reduceIte, Nat.reduceEqDiff, reduceCtorEq, Nat.reduceAdd, Nat.reduceMul, Int.reduceToNat, Int.reduceLE, Int.reduceLT, Int.reduceEq, Int.reduceNe, Nat.reduceLeDiff, Int.reducePow, Nat.reducePow, Nat.reduceLT, Nat.reduceSub, Nat.reduceMod, Nat.reduceDiv, slot_neg, slot_pos, T.ag_3, T.es_39, T.fo_42_0, T.fo_42_1, T.ib_3, T.ii_39, T.ip_3, T.s8_39, T.sl_39, T.st_39, T.un_39, q0, q1, q5, e, hlt]
      rw [hany]
theorem rflight_ph (h : Heap) (m : Nat) (L : List RP) (s : St) (hV : RefV h m L s) (hl : L.length ≤ 100000) (hb : ∀ x ∈ L, x.on = true → 0 ≤ x.size ∧ x.size ≤ 65535) :
    @CallsH Try.prog 26 #[.pointer (some ⟨m, 0, none⟩)] h ⟨fun u _ => u = .int .i64 (asum (waitsOf L))⟩ := by
  obtain ⟨A, st, o, h1, h2⟩ := hV.form
  (refine calls_of_vc [] hm Try.func26 rfl (ts := [2]) rfl (by kernel_rfl) (by simp) ?_; simp (config := { dsimp := false, maxSteps := 10000000 }) (disch := omega) only [go_sem, reduceIte, Nat.reduceEqDiff, reduceCtorEq, Nat.reduceAdd, Nat.reduceMul, Int.reduceToNat, Int.reduceLE, Int.reduceLT, Int.reduceEq, Int.reduceNe, Nat.reduceLeDiff, Int.reducePow, Nat.reducePow, Nat.reduceLT, Nat.reduceSub, Nat.reduceMod, Nat.reduceDiv, slot_neg, slot_pos, T.ag_3, T.ag_4, T.ag_57, T.es_57, T.fo_59_0, T.fo_78_1, T.fo_78_2, T.fo_78_4, T.ib_3, T.ii_57, T.ip_3, T.s8_57, T.sl_57, T.st_57, T.un_57, init_a])
  refine loop_intro [] hm (fun r H => H = h ∧ ∃ i : Nat, i ≤ L.length ∧ r 0 = .pointer (some ⟨m, 0, none⟩) ∧ r 3 = .int .i64 (asum (waitsOf (L.take i))) ∧ r 4 = .int .i64 i) (fun r _ => match r 4 with | .int _ i => L.length - i.toNat | _ => 0) ?_ ?_
  · exact ⟨rfl, 0, by omega, by simp [upd, initR], by simp [upd, waitsOf, asum], by simp [upd]⟩
  · rintro r H ⟨hH, i, hi, q0, q3, q4⟩
    subst hH
    by_cases hil : i < L.length
    · have hlt : ((i : Int) < (L.length : Int)) = True := eq_true (by omega)
      have hx : L[i]? = some L[i] := List.getElem?_eq_getElem hil
      obtain ⟨o, q, off, vs, ob, h1, h2, h3, h4, hR, h5, h6⟩ := hV.at hx
      have y1 : vs[off + i * 5 + 1]? = some (.int .i64 L[i].size) := hR.cell hx (j := 1) (by decide)
      have y2 : vs[off + i * 5 + 2]? = some (.bool L[i].asks) := hR.cell hx (j := 2) (by decide)
      have y4 : vs[off + i * 5 + 4]? = some (.bool L[i].on) := hR.cell hx (j := 4) (by decide)
      have hta := waits_take hx
      have hbs := asum_le (waitsOf (L.take i)) fun y hy => by
        obtain ⟨z, hz, e⟩ := List.mem_map.1 hy
        obtain ⟨hz1, hz2⟩ := List.mem_filter.1 hz
        rw [← e]; exact hb z (List.mem_of_mem_take hz1) hz2
      have hwl : (waitsOf (L.take i)).length ≤ 100000 := by
        unfold waitsOf; rw [List.length_map]
        have := List.length_filter_le (·.on) (L.take i)
        rw [List.length_take] at this; omega
      have hbx := hb L[i] (List.getElem_mem _)
      generalize L[i] = x at *
      have w1 : IntKind.i64.wrap ((i : Int) + 1) = ((i + 1 : Nat) : Int) := by rw [i64wrap] <;> omega
      cases ho : x.on with
      | false =>
        rw [ho] at hta y4
        simp (config := { dsimp := false, maxSteps := 10000000 }) (disch := omega) only [go_sem, reduceIte, Nat.reduceEqDiff, reduceCtorEq, Nat.reduceAdd, Nat.reduceMul, Int.reduceToNat, Int.reduceLE, Int.reduceLT, Int.reduceEq, Int.reduceNe, Nat.reduceLeDiff, Int.reducePow, Nat.reducePow, Nat.reduceLT, Nat.reduceSub, Nat.reduceMod, Nat.reduceDiv, slot_neg, slot_pos, T.ag_3, T.ag_4, T.ag_57, T.es_57, T.fo_59_0, T.fo_78_1, T.fo_78_2, T.fo_78_4, T.ib_3, T.ii_57, T.ip_3, T.s8_57, T.sl_57, T.st_57, T.un_57, q0, q3, q4, hlt, h3, refC, h4, y1, y2, y4, w1]
        exact ⟨⟨i + 1, hil, by rw [hta]; simp, rfl⟩, by omega⟩
      | true =>
        have hbx2 := hbx ho
        rw [ho] at hta y4
        cases ha : x.asks with
        | false =>
          rw [ha] at y2
          simp (config := { dsimp := false, maxSteps := 10000000 }) (disch := omega) only [go_sem, reduceIte, Nat.reduceEqDiff, reduceCtorEq, Nat.reduceAdd, Nat.reduceMul, Int.reduceToNat, Int.reduceLE, Int.reduceLT, Int.reduceEq, Int.reduceNe, Nat.reduceLeDiff, Int.reducePow, Nat.reducePow, Nat.reduceLT, Nat.reduceSub, Nat.reduceMod, Nat.reduceDiv, slot_neg, slot_pos, T.ag_3, T.ag_4, T.ag_57, T.es_57, T.fo_59_0, T.fo_78_1, T.fo_78_2, T.fo_78_4, T.ib_3, T.ii_57, T.ip_3, T.s8_57, T.sl_57, T.st_57, T.un_57, q0, q3, q4, hlt, h3, refC, h4, y1, y2, y4, w1]
          exact ⟨⟨i + 1, hil, by rw [hta]; simp [asum_snoc, RP.pk, ha], rfl⟩, by omega⟩
        | true =>
          rw [ha] at y2
          have w2 : IntKind.i64.wrap (asum (waitsOf (L.take i)) + x.size) = asum (waitsOf (L.take i)) + x.size := by rw [i64wrap] <;> omega
          simp (config := { dsimp := false, maxSteps := 10000000 }) (disch := omega) only [go_sem, reduceIte, Nat.reduceEqDiff, reduceCtorEq, Nat.reduceAdd, Nat.reduceMul, Int.reduceToNat, Int.reduceLE, Int.reduceLT, Int.reduceEq, Int.reduceNe, Nat.reduceLeDiff, Int.reducePow, Nat.reducePow, Nat.reduceLT, Nat.reduceSub, Nat.reduceMod, Nat.reduceDiv, slot_neg, slot_pos, T.ag_3, T.ag_4, T.ag_57, T.es_57, T.fo_59_0, T.fo_78_1, T.fo_78_2, T.fo_78_4, T.ib_3, T.ii_57, T.ip_3, T.s8_57, T.sl_57, T.st_57, T.un_57, q0, q3, q4, hlt, h3, refC, h4, y1, y2, y4, w1, w2]
          exact ⟨⟨i + 1, hil, by rw [hta]; simp [asum_snoc, RP.pk, ha], rfl⟩, by omega⟩
    · have hlt : ((i : Int) < (L.length : Int)) = False := eq_false (by omega)
      obtain rfl : i = L.length := by omega
      rw [List.take_length] at q3
      simp (config := { dsimp := false, maxSteps := 10000000 }) (disch := omega) only [go_sem, reduceIte, Nat.reduceEqDiff, reduceCtorEq, Nat.reduceAdd, Nat.reduceMul, Int.reduceToNat, Int.reduceLE, Int.reduceLT, Int.reduceEq, Int.reduceNe, Nat.reduceLeDiff, Int.reducePow, Nat.reducePow, Nat.reduceLT, Nat.reduceSub, Nat.reduceMod, Nat.reduceDiv, slot_neg, slot_pos, T.ag_3, T.ag_4, T.ag_57, T.es_57, T.fo_59_0, T.fo_78_1, T.fo_78_2, T.fo_78_4, T.ib_3, T.ii_57, T.ip_3, T.s8_57, T.sl_57, T.st_57, T.un_57, q0, q3, q4, h2, refC, hlt]
theorem rnew_ph (h : Heap) : @CallsH Try.prog 19 #[] h ⟨fun u H => u = .pointer (some ⟨h.next, 0, none⟩) ∧ H = h.alloc (.cells (refC (.slice none 0 0) newS) .own)⟩ := by
  (refine calls_of_vc [] hm Try.func19 rfl (ts := [0]) rfl (by kernel_rfl) (by simp) ?_; simp (config := { dsimp := false }) only [go_sem, reduceIte, Nat.reduceEqDiff, reduceCtorEq, Nat.reduceAdd, Nat.reduceMul, Int.reduceToNat, Int.reduceLE, Int.reduceLT, Int.reduceEq, Int.reduceNe, Nat.reduceLeDiff, Int.reducePow, Nat.reducePow, Nat.reduceLT, Nat.reduceSub, Nat.reduceMod, Nat.reduceDiv, T.pl_59, T.zo_59, init_a, refC, newS])
theorem to_ph (h : Heap) (v : Value) (l : List Sp) (hr : RowIn spE h v l) (hlt : ∀ A n st, v = .slice (some A) n st → A.block < h.next) (hl : l.length ≤ 1000000) :
    @CallsH Try.prog 21 #[v] h ⟨fun u H => ∃ D, OwnRow spE H u D l ∧ Upd h H [] ∧ ∀ d ∈ D, h.next ≤ d⟩ := by
  obtain ⟨A, st, e⟩ := hr.form
  (refine calls_of_vc [] hm Try.func21 rfl (ts := [2]) rfl (by kernel_rfl) (by simp) ?_; simp (config := { dsimp := false, maxSteps := 10000000 }) (disch := omega) only [go_sem, reduceIte, Nat.reduceEqDiff, reduceCtorEq, Nat.reduceAdd, Nat.reduceMul, Int.reduceToNat, Int.reduceLE, Int.reduceLT, Int.reduceEq, Int.reduceNe, Nat.reduceLeDiff, Int.reducePow, Nat.reducePow, Nat.reduceLT, Nat.reduceSub, Nat.reduceMod, Nat.reduceDiv, slot_neg, slot_pos, T.ag_3, T.eb_33, T.es_39, T.ez_33, T.fo_42_0, T.fo_42_1, T.ib_3, T.ii_33, T.ii_39, T.ip_3, T.pl_32, T.s8_33, T.s8_39, T.sl_33, T.sl_39, T.st_33, T.st_39, T.un_33, T.un_39, T.zo_32, init_a])
  refine loop_intro [] hm (fun r H => ∃ (i : Nat) (D : List Nat), i ≤ l.length ∧ Upd h H [] ∧ OwnRow spE H (r 3) D (l.take i) ∧ (∀ d ∈ D, h.next ≤ d) ∧ r 0 = v ∧ r 4 = .int .i64 i) (fun r _ => match r 4 with | .int _ i => l.length - i.toNat | _ => 0) ?_ ?_
  · exact ⟨0, [], by omega, Upd.refl _ _, by simpa [upd] using OwnRow.nil _, by simp, by simp [upd, initR], by simp [upd]⟩
  · rintro r H ⟨i, D, hi, hU, hO, hD, q0, q4⟩
    generalize q3 : r 3 = v3 at *
    by_cases hil : i < l.length
    · have hlt' : ((i : Int) < (l.length : Int)) = True := eq_true (by omega)
      have hx : l[i]? = some l[i] := List.getElem?_eq_getElem hil
      rcases id hr with ⟨_, hnil⟩ | ⟨q, off, vs, ob, hv, hq, hR⟩
      · rw [hnil] at hil; simp at hil
      have hq2 := (hU.2 q (hlt _ _ _ hv) (by simp)).trans hq
      have hql := hlt _ _ _ hv
      simp only at hql
      have y1 : vs[off + i * 2]? = some (.int .i64 l[i].fr) := hR.cell hx (j := 0) (by decide)
      have y2 : vs[off + i * 2 + 1]? = some (.int .i64 l[i].to) := hR.cell hx (j := 1) (by decide)
      have hta := take_next hx
      generalize l[i] = x at *
      have hK : spE.k = 2 := rfl
      have w1 : IntKind.i64.wrap ((i : Int) + 1) = ((i + 1 : Nat) : Int) := by rw [i64wrap] <;> omega
      have htl : (l.take i).length = i := by rw [List.length_take]; omega
      simp (config := { dsimp := false, maxSteps := 10000000 }) (disch := omega) only [go_sem, reduceIte, Nat.reduceEqDiff, reduceCtorEq, Nat.reduceAdd, Nat.reduceMul, Int.reduceToNat, Int.reduceLE, Int.reduceLT, Int.reduceEq, Int.reduceNe, Nat.reduceLeDiff, Int.reducePow, Nat.reducePow, Nat.reduceLT, Nat.reduceSub, Nat.reduceMod, Nat.reduceDiv, slot_neg, slot_pos, T.ag_3, T.eb_33, T.es_39, T.ez_33, T.fo_42_0, T.fo_42_1, T.ib_3, T.ii_33, T.ii_39, T.ip_3, T.pl_32, T.s8_33, T.s8_39, T.sl_33, T.sl_39, T.st_33, T.st_39, T.un_33, T.un_39, T.zo_32, q0, q3, q4, hv, hlt', hq2, y1, y2, hK, w1]
      have hg3 : ∀ (b : Blk) d, d < H.next → (H.alloc b).get d = H.get d := fun b d hd => by rw [get_alloc, if_neg (by omega)]
      refine draw_plan0 (.takeS 1 (.takeS 2 (.takeS 3 (.takeS 4 (.takeS 5 (.takeS 6 (.takeS 7 (.takeS 8 (.takeS 9 (.takeS 10 (.takeS 11 (.take 0 (.alt 12 (.alt 13 (.takeS 14 .done) .stop) .stop))))))))))))) hm (by kernel_rfl) (by kernel_rfl) ?_
      simp (config := { dsimp := false, maxSteps := 10000000 }) (disch := omega) only [go_sem, reduceIte, Nat.reduceEqDiff, reduceCtorEq, Nat.reduceAdd, Nat.reduceMul, Int.reduceToNat, Int.reduceLE, Int.reduceLT, Int.reduceEq, Int.reduceNe, Nat.reduceLeDiff, Int.reducePow, Nat.reducePow, Nat.reduceLT, Nat.reduceSub, Nat.reduceMod, Nat.reduceDiv, slot_neg, slot_pos, T.ag_3, T.eb_33, T.es_39, T.ez_33, T.fo_42_0, T.fo_42_1, T.ib_3, T.ii_33, T.ii_39, T.ip_3, T.pl_32, T.s8_33, T.s8_39, T.sl_33, T.sl_39, T.st_33, T.st_39, T.un_33, T.un_39, T.zo_32, q0, q3, q4, hv, hlt', hq2, y1, y2, hK, w1]
      refine app_own (E := spE) (ns := [x]) (hO.keep (Nat.le_succ _) fun d hd => hg3 _ d (hO.lt d hd)) rfl rfl rfl (by simp; omega) fun u H2 D2 hO2 hU2 hD2 => ?_
      have hn2 : H.next + 1 ≤ H2.next := hU2.1
      simp (config := { dsimp := false, maxSteps := 10000000 }) (disch := omega) only [go_sem, reduceIte, Nat.reduceEqDiff, reduceCtorEq, Nat.reduceAdd, Nat.reduceMul, Int.reduceToNat, Int.reduceLE, Int.reduceLT, Int.reduceEq, Int.reduceNe, Nat.reduceLeDiff, Int.reducePow, Nat.reducePow, Nat.reduceLT, Nat.reduceSub, Nat.reduceMod, Nat.reduceDiv, slot_neg, slot_pos, T.ag_3, T.eb_33, T.es_39, T.ez_33, T.fo_42_0, T.fo_42_1, T.ib_3, T.ii_33, T.ii_39, T.ip_3, T.pl_32, T.s8_33, T.s8_39, T.sl_33, T.sl_39, T.st_33, T.st_39, T.un_33, T.un_39, T.zo_32, q0, q3, q4, hv, hlt', w1]
      refine ⟨⟨i + 1, D2, hil, hU.allocs.trans hU2 fun d hd => .inr (hD d hd), by rw [hta]; exact hO2, fun d hd => ?_, rfl⟩, by omega⟩
      rcases hD2 d hd with h1 | h1
      · exact hD d h1
      · have h2 : H.next + 1 ≤ d := h1
        have := hU.1; omega
    · have hlt' : ((i : Int) < (l.length : Int)) = False := eq_false (by omega)
      obtain rfl : i = l.length := by omega
      rw [List.take_length] at hO
      simp (config := { dsimp := false, maxSteps := 10000000 }) (disch := omega) only [go_sem, reduceIte, Nat.reduceEqDiff, reduceCtorEq, Nat.reduceAdd, Nat.reduceMul, Int.reduceToNat, Int.reduceLE, Int.reduceLT, Int.reduceEq, Int.reduceNe, Nat.reduceLeDiff, Int.reducePow, Nat.reducePow, Nat.reduceLT, Nat.reduceSub, Nat.reduceMod, Nat.reduceDiv, slot_neg, slot_pos, T.ag_3, T.eb_33, T.es_39, T.ez_33, T.fo_42_0, T.fo_42_1, T.ib_3, T.ii_33, T.ii_39, T.ip_3, T.pl_32, T.s8_33, T.s8_39, T.sl_33, T.sl_39, T.st_33, T.st_39, T.un_33, T.un_39, T.zo_32, q0, q3, q4, e, hlt']
      exact ⟨D, hO, hU, hD⟩
end Ph
