import Derived.Test.YthagjeomcgphiaaDoorN15
set_option maxRecDepth 100000
set_option maxHeartbeats 8000000
set_option linter.unusedSimpArgs false
set_option linter.unusedVariables false
namespace Ph
open Go Go.Proofs
attribute [local irreducible] Value.cells
attribute [local go_sem ↓] s_move s_assign s_pick s_nil s_bin s_un s_fa s_field s_ext s_ia s_ix s_slice s_conv s_build s_bs s_mf s_alloc s_box s_load s_store s_len s_min s_max s_app s_call q_call q_move q_assign q_pick q_nil q_bin q_un q_fa q_field q_ext q_ia q_ix q_slice q_conv q_build q_mf q_load q_len q_min q_max l_nil l_move l_assign l_pick l_nilc l_bin l_un l_fa l_field l_ext l_ia l_ix l_slice l_conv l_build l_mf l_load l_len l_min l_max l_call put_eq putN_eq o_nil o_plain o_gate v_nil v_plain v_gate vc_skip vc_region vc_seq vc_cond vc_block vc_loop vc_exit vc_ret blk_normal blk_ret blk_exit on_normal on_ret on_exit vc_drawn draw_q s_mk l_bs l_mk l_alloc l_box l_store l_app pl_done pl_take pl_alt pl_stop one_plain one_gate
attribute [local go_sem] onAgg_a onTuple_t onFunc_f c_int c_nil c_sl c_str sl_sl sl_nil sl_str ix_str ix_agg n_nil n_sl n_str app_eq k_nil k_sl len_sl len_str upd_some upd_none ev_tmp ev_const ev_func rd_some gdst_eq otmp_t otmp_c get_put get_alloc next_put next_alloc get_app next_app init_a resV1 resV2 onPtr_ptr onBool_b onInt_i onSlice_s onSome_s onCells_c lett_eq gate_tt gate_tf gate_ff gate_ft gate_dt gate_df also_eq bin un minmax io_none io_some bo_none bo_some partOf List.getElem?_cons_zero List.getElem?_cons_succ List.getElem?_toArray Option.map_some Option.map_none Option.bind_some ne_eq not_true_eq_false not_false_eq_true false_implies true_implies and_true true_and and_self Bool.false_eq_true Nat.zero_add Nat.add_zero List.size_toArray List.length_cons List.length_nil List.map_toArray List.map_cons List.map_nil Array.getD_eq_getD_getElem? Option.getD_some Bool.not_true Bool.not_false Bool.not_eq_true Option.isNone_some Option.isNone_none List.append_toArray List.append_nil List.nil_append List.cons_append decide_true decide_false in_nil in_cons Bool.and_false Bool.and_true Bool.or_false Bool.true_or Bool.false_or get_mask next_mask get_unmask next_unmask ac_move ac_assign ac_pick ac_nil ac_bin ac_un ac_fa ac_field ac_ext ac_ia ac_ix ac_slice ac_build ac_mf ac_call ac_load ac_conv accP_p accS_s accS_n accS_i accS_t fixed_ro fixed_lock fixed_own get_ro next_ro lock_live' lock_cells List.mem_cons List.not_mem_nil or_false false_or or_true true_or and_false false_and IntKind.bits Int.natCast_zero Int.natCast_one size_str data_str list_str mk_str ext_str app_str bytes_str w_byte w_byteu Int.toNat_natCast Int.toNat_zero Int.toNat_one Nat.sub_zero ge_iff_le gt_iff_lt Nat.le_refl Int.le_refl List.drop_zero Int.ofNat_eq_natCast Int.natCast_nonneg Int.sub_zero oc_int oc_bool oc_str oc_ptr oc_sl oc_map oc_func List.set_cons_zero List.set_cons_succ Nat.mul_one List.all_cons List.all_nil Bool.and_self res_nil res_tmp res_cell tup_one tup_two tup_nil fill_nil repl_zero cells_agg List.append_eq List.toList_toArray Nat.zero_mul Nat.one_mul repl_one repl_two onSome_build fill_cons onSome_lit splice_eq cells_int cells_bool cells_str cells_ptr cells_sl cells_map cells_func loadK_n loadK_s load_k storeK_n storeK_s store_k all_arr List.take_zero List.take_succ_cons List.drop_succ_cons List.take_nil List.drop_nil lk_own lk_ro lk_lock lk_lk fixed_lk gate_nt gate_nf gate3_b gate3_u undef Bool.true_and Bool.false_and nx_l nx_r nx_lt
def foursW : Nat → List UInt8 → List Int
  | 0, _ => []
  | n + 1, l => numW (l.take 4) :: foursW n (l.drop 4)
/-- the token of an initial packet, and what is behind it -/
def tokS (rest : List UInt8) : List UInt8 × List UInt8 × Int :=
  let g := vget rest
  if g.2.2 ≠ 0 then ([], [], g.2.2) else if 512 < g.1 then ([], [], 2) else if rest.length - g.2.1 < g.1 then ([], [], 3) else ((rest.drop g.2.1).take g.1, rest.drop (g.2.1 + g.1), 0)
def docEnd (n : Nat) (k v : Int) (d s t : List UInt8) (rest : List UInt8) : GetR :=
  let g := vget rest
  if g.2.2 ≠ 0 then noneR g.2.2 else if 16383 < g.1 then noneR 2 else if (rest.drop g.2.1).length < g.1 then noneR 3 else
  ⟨hd9 k v d s t g.1, [], (n : Int) - (rest.drop g.2.1).length, (n : Int) - (rest.drop g.2.1).length + g.1, 0⟩
def docK (k n : Nat) (num : Int) (dn sn rest : List UInt8) : GetR :=
  if k = 3 then (if 512 < rest.length then noneR 2 else ⟨hd9 3 num dn sn rest 0, [], n, n, 0⟩)
  else if k = 0 then (if (tokS rest).2.2 ≠ 0 then noneR (tokS rest).2.2 else docEnd n 0 num dn sn (tokS rest).1 (tokS rest).2.1)
  else docEnd n k num dn sn [] rest
def docR (k n : Nat) (vs : Bool) (num : Int) (dn sn rest : List UInt8) : GetR :=
  if vs = true then (if rest.length % 4 ≠ 0 ∨ rest.length = 0 ∨ 64 < rest.length then noneR 2 else ⟨hd9 5 num dn sn [] 0, foursW (rest.length / 4) rest, n, n, 0⟩) else docK k n num dn sn rest
def docS (k n : Nat) (vs : Bool) (num : Int) (dn : List UInt8) (s : List UInt8 × List UInt8 × Int) : GetR := if s.2.2 ≠ 0 then noneR s.2.2 else docR k n vs num dn s.1 s.2.1
def docD (k n : Nat) (vs : Bool) (num : Int) (d : List UInt8 × List UInt8 × Int) : GetR := if d.2.2 ≠ 0 then noneR d.2.2 else docS k n vs num d.1 (nameS d.2.1)
def docL (b : UInt8) (t : List UInt8) : GetR :=
  if b.toNat < 192 ∧ decide (4 ≤ t.length ∧ numW (t.take 4) = 0) = false then noneR 2 else if t.length < 4 then noneR 3 else
  docD (kind b) (t.length + 1) (decide (4 ≤ t.length ∧ numW (t.take 4) = 0)) (numW (t.take 4)) (nameS (t.drop 4))
def docG (l : List UInt8) (own : Int) : GetR :=
  if own < 0 ∨ 20 < own then noneR 1 else
  match l with
  | [] => noneR 3
  | b :: t => if b.toNat < 128 then (if b.toNat < 64 then noneR 2 else if t.length < own.toNat then noneR 3
      else ⟨hd9 4 0 (t.take own.toNat) [] [] 0, [], 1 + own, ((t.length + 1 : Nat) : Int), 0⟩) else docL b t
def Z24 : List Value := [.int .i64 0, .int .i64 0, .string (str []), .string (str []), .string (str []), .int .i64 0, .int .i64 0, .int .i64 0, .bool false, .slice none 0 0]
def SlW (H : Heap) (n0 hc : Nat) (v : Value) (l : List Int) : Prop :=
  (v = .slice none 0 0 ∧ l = []) ∨ ∃ j, n0 + 2 ≤ j ∧ j ≠ hc ∧ j < H.next ∧ v = .slice (some ⟨j, 0, none⟩) l.length 1 ∧ H.get j = .live (.cells (ic l) .own)
theorem SlW.one {H n0 hc v l} (h : SlW H n0 hc v l) : v.oneCell' = true := by rcases h with ⟨rfl, _⟩ | ⟨_, _, _, _, rfl, _⟩ <;> rfl
theorem foursW_succ : ∀ (i : Nat) (l : List UInt8), foursW (i + 1) l = foursW i l ++ [numW ((l.drop (4 * i)).take 4)]
  | 0, l => by simp [foursW]
  | i + 1, l => by
    have := foursW_succ i (l.drop 4)
    rw [foursW, this, foursW]
    simp only [List.cons_append, List.drop_drop]
    rw [show 4 + 4 * i = 4 * (i + 1) by omega]
theorem foursW_len : ∀ (i : Nat) (l : List UInt8), (foursW i l).length = i
  | 0, _ => rfl
  | i + 1, l => by rw [foursW, List.length_cons, foursW_len i]
theorem nameS_le (l : List UInt8) : (nameS l).2.1.length ≤ l.length := by
  unfold nameS
  cases l with
  | nil => simp
  | cons b t => simp only []; split; · simp
                split; · simp
                simp; omega
structure GD (r : Regs) (H : Heap) (n0 : Nat) (l : List UInt8) : Prop where
  r0 : r 0 = .string (str l)
  r4 : r 4 = .pointer (some ⟨n0, 0, none⟩)
  r8 : r 8 = .pointer (some ⟨n0 + 1, 0, none⟩)
  g4 : H.get n0 = .live (.cells Z24 .own)
  g8 : H.get (n0 + 1) = .live (.cells Z24 .own)
  nx : n0 + 2 ≤ H.next
structure GE (r : Regs) (H : Heap) (n0 hc : Nat) (l : List UInt8) (hd : List Value) (rest : List UInt8) : Prop where
  gd : GD r H n0 l
  h1 : n0 + 2 ≤ hc
  h2 : hc < H.next
  r11 : r 11 = .pointer (some ⟨hc, 0, none⟩)
  g11 : H.get hc = .live (.cells hd .own)
  r13 : r 13 = .string (str rest)
theorem GRes.none' {n0 : Nat} {g : GetR} (e : Int) (h' : Heap) (hg : g = noneR e) : GRes n0 g (.tuple #[.agg #[.int .i64 0, .int .i64 0, .string (str []), .string (str []), .string (str []), .int .i64 0, .int .i64 0, .int .i64 0, .bool false, .slice Option.none 0 0], .int .i64 0, .int .i64 0, .int .i64 e]) h' := by
  rw [hg]; exact GRes.none e h'
theorem docG_out {l : List UInt8} {own : Int} (h : own < 0 ∨ 20 < own) : docG l own = noneR 1 := by unfold docG; rw [if_pos h]
theorem docG_nil {own : Int} (h : ¬ (own < 0 ∨ 20 < own)) : docG [] own = noneR 3 := by unfold docG; rw [if_neg h]
theorem docG_cons {b : UInt8} {t : List UInt8} {own : Int} (h : ¬ (own < 0 ∨ 20 < own)) : docG (b :: t) own = if b.toNat < 128 then (if b.toNat < 64 then noneR 2 else if t.length < own.toNat then noneR 3
      else ⟨hd9 4 0 (t.take own.toNat) [] [] 0, [], 1 + own, ((t.length + 1 : Nat) : Int), 0⟩) else docL b t := by
  rw [docG, if_neg h]
theorem DocGet_ph (h : Heap) (l : List UInt8) (own : Int) (hll : l.length < 9223372036854775807) (ho : (Lit.int .i64 own).wf = true) :
    @CallsH Tryd.prog 18 #[.string (str l), .int .i64 own] h ⟨GRes h.next (docG l own)⟩ := by
  refine calls_of_codeR (rs := [.cell 4 24, .tmp 5, .tmp 6, .tmp 7]) Tryd.func18 rfl rfl (by simp) ?_
  refine CodeH.cut3 [] hm (fun r H => GD r H h.next l ∧ r 1 = .int .i64 own ∧ 0 ≤ own ∧ own ≤ 20) (by kernel_rfl) ?_ ?_
  · simp (config := { dsimp := false, maxSteps := 10000000 }) (disch := omega) only [go_sem, reduceIte, Nat.reduceEqDiff, reduceCtorEq, Nat.reduceAdd, Nat.reduceMul, Int.reduceToNat, Int.reduceLE, Int.reduceLT, Int.reduceEq, Int.reduceNe, Nat.reduceLeDiff, Int.reducePow, Nat.reducePow, Nat.reduceLT, Nat.reduceSub, Nat.reduceMod, Nat.reduceDiv, slot_neg, slot_pos, T.ag_22, T.ag_24, T.ag_3, T.ag_9, T.eb_22, T.es_9, T.ez_22, T.fo_24_0, T.fo_24_2, T.fo_24_3, T.fo_24_4, T.fo_24_5, T.fo_24_9, T.gf_42, T.gf_43, T.gf_44, T.ib_25, T.ib_3, T.ib_35, T.ib_9, T.ii_22, T.ii_3, T.ii_35, T.ii_5, T.ii_9, T.ip_25, T.ip_3, T.ip_35, T.ip_9, T.pl_24, T.s8_22, T.s8_3, T.s8_35, T.s8_5, T.s8_9, T.sl_22, T.sl_3, T.sl_35, T.sl_5, T.sl_9, T.st_22, T.st_3, T.st_35, T.st_5, T.st_9, T.un_22, T.un_3, T.un_35, T.un_5, T.un_9, T.zo_24, init_a]
    refine ⟨fun h0 => ⟨fun h1 => GRes.none' 1 _ (docG_out (by omega)), fun h1 => ⟨⟨rfl, rfl, rfl, by simp [Heap.put, Heap.alloc, Z24], by simp [Heap.put, Heap.alloc, Z24], by simp [Heap.put, Heap.alloc]⟩, by omega, by omega⟩⟩, fun h0 => GRes.none' 1 _ (docG_out (by omega))⟩
  rintro r H ⟨hD, h1, o1, o2⟩
  have hown : ¬ (own < 0 ∨ 20 < own) := by omega
  refine CodeH.cut3 [] hm (fun r H => ∃ b t, l = b :: t ∧ 128 ≤ b.toNat ∧ GD r H h.next l ∧ r 9 = .int .i64 b.toNat) (by kernel_rfl) ?_ ?_
  · obtain ⟨r0, r4, r8, g4, g8, nx⟩ := hD
    have w1 : IntKind.i64.wrap (1 + own) = 1 + own := by rw [i64wrap] <;> omega
    cases l with
    | nil =>
      simp (config := { dsimp := false, maxSteps := 10000000 }) (disch := omega) only [go_sem, reduceIte, Nat.reduceEqDiff, reduceCtorEq, Nat.reduceAdd, Nat.reduceMul, Int.reduceToNat, Int.reduceLE, Int.reduceLT, Int.reduceEq, Int.reduceNe, Nat.reduceLeDiff, Int.reducePow, Nat.reducePow, Nat.reduceLT, Nat.reduceSub, Nat.reduceMod, Nat.reduceDiv, slot_neg, slot_pos, T.ag_22, T.ag_24, T.ag_3, T.ag_9, T.eb_22, T.es_9, T.ez_22, T.fo_24_0, T.fo_24_2, T.fo_24_3, T.fo_24_4, T.fo_24_5, T.fo_24_9, T.gf_42, T.gf_43, T.gf_44, T.ib_25, T.ib_3, T.ib_35, T.ib_9, T.ii_22, T.ii_3, T.ii_35, T.ii_5, T.ii_9, T.ip_25, T.ip_3, T.ip_35, T.ip_9, T.pl_24, T.s8_22, T.s8_3, T.s8_35, T.s8_5, T.s8_9, T.sl_22, T.sl_3, T.sl_35, T.sl_5, T.sl_9, T.st_22, T.st_3, T.st_35, T.st_5, T.st_9, T.un_22, T.un_3, T.un_35, T.un_5, T.un_9, T.zo_24, r0, r4, r8, h1, g4, g8, Z24]
      exact GRes.none' 3 _ (docG_nil hown)
    | cons b t =>
      have hn : (b :: t = []) = False := eq_false (by simp)
      have hl9 : (b :: t).length = t.length + 1 := rfl
      simp (config := { dsimp := false, maxSteps := 10000000 }) (disch := omega) only [go_sem, reduceIte, Nat.reduceEqDiff, reduceCtorEq, Nat.reduceAdd, Nat.reduceMul, Int.reduceToNat, Int.reduceLE, Int.reduceLT, Int.reduceEq, Int.reduceNe, Nat.reduceLeDiff, Int.reducePow, Nat.reducePow, Nat.reduceLT, Nat.reduceSub, Nat.reduceMod, Nat.reduceDiv, slot_neg, slot_pos, T.ag_22, T.ag_24, T.ag_3, T.ag_9, T.eb_22, T.es_9, T.ez_22, T.fo_24_0, T.fo_24_2, T.fo_24_3, T.fo_24_4, T.fo_24_5, T.fo_24_9, T.gf_42, T.gf_43, T.gf_44, T.ib_25, T.ib_3, T.ib_35, T.ib_9, T.ii_22, T.ii_3, T.ii_35, T.ii_5, T.ii_9, T.ip_25, T.ip_3, T.ip_35, T.ip_9, T.pl_24, T.s8_22, T.s8_3, T.s8_35, T.s8_5, T.s8_9, T.sl_22, T.sl_3, T.sl_35, T.sl_5, T.sl_9, T.st_22, T.st_3, T.st_35, T.st_5, T.st_9, T.un_22, T.un_3, T.un_35, T.un_5, T.un_9, T.zo_24, r0, r4, r8, h1, g4, g8, Z24, hn, List.getD_cons_zero, w1]
      refine ⟨by omega, fun a1 => ⟨fun a2 => GRes.none' 2 _ ?_, fun a2 => ⟨fun a3 => GRes.none' 3 _ ?_, fun a3 => ⟨⟨by omega, by omega⟩, ?_⟩⟩⟩, fun a1 => ⟨b, t, rfl, by omega, ⟨r0, r4, r8, g4, g8, nx⟩, rfl⟩⟩
      · rw [docG_cons hown]; rw [if_pos (by omega), if_pos (by omega)]
      · rw [docG_cons hown]; rw [if_pos (by omega), if_neg (by omega), if_pos (by omega)]
      · have e : docG (b :: t) own = ⟨hd9 4 0 (t.take own.toNat) [] [] 0, [], 1 + own, ((t.length + 1 : Nat) : Int), 0⟩ := by
          rw [docG_cons hown]; rw [if_pos (by omega), if_neg (by omega), if_neg (by omega)]
        rw [e]
        have e2 : (1 + own).toNat - 1 = own.toNat := by omega
        exact ⟨.slice Option.none 0 0, by rw [hd9, e2]; rfl, .inl ⟨rfl, rfl⟩⟩
  rintro r H ⟨b, t, rfl, hb, hD, h9⟩
  have hdoc : docG (b :: t) own = docL b t := by rw [docG_cons hown]; rw [if_neg (by omega)]
  rw [hdoc]
  clear hdoc h1 o1 o2 hown ho
  have hl9 : (b :: t).length = t.length + 1 := rfl
  have hb8 := b.toNat_lt
  generalize hvs : decide (4 ≤ t.length ∧ numW (t.take 4) = 0) = vs
  refine CodeH.cut3 [] hm (fun r H => GD r H h.next (b :: t) ∧ r 9 = .int .i64 b.toNat ∧ r 10 = .bool vs ∧ ¬ (b.toNat < 192 ∧ vs = false) ∧ 4 ≤ t.length) (by kernel_rfl) ?_ ?_
  · obtain ⟨r0, r4, r8, g4, g8, nx⟩ := hD
    have no2 : b.toNat < 192 → vs = false → docL b t = noneR 2 := fun x y => by
      unfold docL; rw [if_pos ⟨x, by rw [hvs]; exact y⟩]
    have no3 : ¬ (b.toNat < 192 ∧ vs = false) → t.length < 4 → docL b t = noneR 3 := fun x y => by
      have : vs = false := by rw [← hvs]; exact decide_eq_false (by omega)
      unfold docL; rw [if_neg (fun z => x ⟨z.1, this⟩), if_pos y]
    by_cases hlt : 4 ≤ t.length
    · have h5 : (5 ≤ ((t.length + 1 : Nat) : Int)) = True := eq_true (by omega)
      have h5' : (((t.length + 1 : Nat) : Int) < 5) = False := eq_false (by omega)
      simp (config := { dsimp := false, maxSteps := 10000000 }) (disch := omega) only [go_sem, reduceIte, Nat.reduceEqDiff, reduceCtorEq, Nat.reduceAdd, Nat.reduceMul, Int.reduceToNat, Int.reduceLE, Int.reduceLT, Int.reduceEq, Int.reduceNe, Nat.reduceLeDiff, Int.reducePow, Nat.reducePow, Nat.reduceLT, Nat.reduceSub, Nat.reduceMod, Nat.reduceDiv, slot_neg, slot_pos, T.ag_22, T.ag_24, T.ag_3, T.ag_9, T.eb_22, T.es_9, T.ez_22, T.fo_24_0, T.fo_24_2, T.fo_24_3, T.fo_24_4, T.fo_24_5, T.fo_24_9, T.gf_42, T.gf_43, T.gf_44, T.ib_25, T.ib_3, T.ib_35, T.ib_9, T.ii_22, T.ii_3, T.ii_35, T.ii_5, T.ii_9, T.ip_25, T.ip_3, T.ip_35, T.ip_9, T.pl_24, T.s8_22, T.s8_3, T.s8_35, T.s8_5, T.s8_9, T.sl_22, T.sl_3, T.sl_35, T.sl_5, T.sl_9, T.st_22, T.st_3, T.st_35, T.st_5, T.st_9, T.un_22, T.un_3, T.un_35, T.un_5, T.un_9, T.zo_24, r0, r4, r8, h9, g4, g8, Z24, h5, h5']
      refine CallsH.pure _ rfl (number_ph _ (by simp; omega) _) ?_
      have e4 : decide (numW (t.take 4) = 0) = vs := by rw [← hvs]; simp [hlt]
      cases vs
      · simp (config := { dsimp := false, maxSteps := 10000000 }) (disch := omega) only [go_sem, reduceIte, Nat.reduceEqDiff, reduceCtorEq, Nat.reduceAdd, Nat.reduceMul, Int.reduceToNat, Int.reduceLE, Int.reduceLT, Int.reduceEq, Int.reduceNe, Nat.reduceLeDiff, Int.reducePow, Nat.reducePow, Nat.reduceLT, Nat.reduceSub, Nat.reduceMod, Nat.reduceDiv, slot_neg, slot_pos, T.ag_22, T.ag_24, T.ag_3, T.ag_9, T.eb_22, T.es_9, T.ez_22, T.fo_24_0, T.fo_24_2, T.fo_24_3, T.fo_24_4, T.fo_24_5, T.fo_24_9, T.gf_42, T.gf_43, T.gf_44, T.ib_25, T.ib_3, T.ib_35, T.ib_9, T.ii_22, T.ii_3, T.ii_35, T.ii_5, T.ii_9, T.ip_25, T.ip_3, T.ip_35, T.ip_9, T.pl_24, T.s8_22, T.s8_3, T.s8_35, T.s8_5, T.s8_9, T.sl_22, T.sl_3, T.sl_35, T.sl_5, T.sl_9, T.st_22, T.st_3, T.st_35, T.st_5, T.st_9, T.un_22, T.un_3, T.un_35, T.un_5, T.un_9, T.zo_24, r0, r4, r8, h9, g4, g8, Z24, h5, h5', e4]
        exact ⟨fun x => GRes.none' 2 _ (no2 (by omega) rfl), fun x => ⟨⟨r0, r4, r8, g4, g8, nx⟩, by omega, hlt⟩⟩
      · simp (config := { dsimp := false, maxSteps := 10000000 }) (disch := omega) only [go_sem, reduceIte, Nat.reduceEqDiff, reduceCtorEq, Nat.reduceAdd, Nat.reduceMul, Int.reduceToNat, Int.reduceLE, Int.reduceLT, Int.reduceEq, Int.reduceNe, Nat.reduceLeDiff, Int.reducePow, Nat.reducePow, Nat.reduceLT, Nat.reduceSub, Nat.reduceMod, Nat.reduceDiv, slot_neg, slot_pos, T.ag_22, T.ag_24, T.ag_3, T.ag_9, T.eb_22, T.es_9, T.ez_22, T.fo_24_0, T.fo_24_2, T.fo_24_3, T.fo_24_4, T.fo_24_5, T.fo_24_9, T.gf_42, T.gf_43, T.gf_44, T.ib_25, T.ib_3, T.ib_35, T.ib_9, T.ii_22, T.ii_3, T.ii_35, T.ii_5, T.ii_9, T.ip_25, T.ip_3, T.ip_35, T.ip_9, T.pl_24, T.s8_22, T.s8_3, T.s8_35, T.s8_5, T.s8_9, T.sl_22, T.sl_3, T.sl_35, T.sl_5, T.sl_9, T.st_22, T.st_3, T.st_35, T.st_5, T.st_9, T.un_22, T.un_3, T.un_35, T.un_5, T.un_9, T.zo_24, r0, r4, r8, h9, g4, g8, Z24, h5, h5', e4]
        exact ⟨fun x => ⟨⟨r0, r4, r8, g4, g8, nx⟩, hlt⟩, fun x => ⟨⟨r0, r4, r8, g4, g8, nx⟩, hlt⟩⟩
    · have h5 : (5 ≤ ((t.length + 1 : Nat) : Int)) = False := eq_false (by omega)
      have h5' : (((t.length + 1 : Nat) : Int) < 5) = True := eq_true (by omega)
      have : vs = false := by rw [← hvs]; exact decide_eq_false (by omega)
      simp (config := { dsimp := false, maxSteps := 10000000 }) (disch := omega) only [go_sem, reduceIte, Nat.reduceEqDiff, reduceCtorEq, Nat.reduceAdd, Nat.reduceMul, Int.reduceToNat, Int.reduceLE, Int.reduceLT, Int.reduceEq, Int.reduceNe, Nat.reduceLeDiff, Int.reducePow, Nat.reducePow, Nat.reduceLT, Nat.reduceSub, Nat.reduceMod, Nat.reduceDiv, slot_neg, slot_pos, T.ag_22, T.ag_24, T.ag_3, T.ag_9, T.eb_22, T.es_9, T.ez_22, T.fo_24_0, T.fo_24_2, T.fo_24_3, T.fo_24_4, T.fo_24_5, T.fo_24_9, T.gf_42, T.gf_43, T.gf_44, T.ib_25, T.ib_3, T.ib_35, T.ib_9, T.ii_22, T.ii_3, T.ii_35, T.ii_5, T.ii_9, T.ip_25, T.ip_3, T.ip_35, T.ip_9, T.pl_24, T.s8_22, T.s8_3, T.s8_35, T.s8_5, T.s8_9, T.sl_22, T.sl_3, T.sl_35, T.sl_5, T.sl_9, T.st_22, T.st_3, T.st_35, T.st_5, T.st_9, T.un_22, T.un_3, T.un_35, T.un_5, T.un_9, T.zo_24, r0, r4, r8, h9, g4, g8, Z24, h5, h5']
      exact ⟨fun x => GRes.none' 2 _ (no2 (by omega) this), fun x => GRes.none' 3 _ (no3 (by omega) (by omega))⟩
  rintro r H ⟨hD, h9, h10, hnv, hlt⟩
  have hdoc : docL b t = docD (kind b) (t.length + 1) vs (numW (t.take 4)) (nameS (t.drop 4)) := by
    unfold docL; rw [hvs, if_neg hnv, if_neg (by omega)]
  rw [hdoc]
  clear hdoc
  refine CodeH.cut3 [] hm (fun r H => ∃ hc, GE r H h.next hc (b :: t) (hd9 (kind b) (numW (t.take 4)) [] [] [] 0 ++ [.slice none 0 0]) (nameS (t.drop 4)).2.1 ∧ r 10 = .bool vs ∧ r 12 = .string (str (nameS (t.drop 4)).1) ∧ (nameS (t.drop 4)).2.2 = 0) (by kernel_rfl) ?_ ?_
  · obtain ⟨r0, r4, r8, g4, g8, nx⟩ := hD
    simp (config := { dsimp := false, maxSteps := 10000000 }) (disch := omega) only [go_sem, reduceIte, Nat.reduceEqDiff, reduceCtorEq, Nat.reduceAdd, Nat.reduceMul, Int.reduceToNat, Int.reduceLE, Int.reduceLT, Int.reduceEq, Int.reduceNe, Nat.reduceLeDiff, Int.reducePow, Nat.reducePow, Nat.reduceLT, Nat.reduceSub, Nat.reduceMod, Nat.reduceDiv, slot_neg, slot_pos, T.ag_22, T.ag_24, T.ag_3, T.ag_9, T.eb_22, T.es_9, T.ez_22, T.fo_24_0, T.fo_24_2, T.fo_24_3, T.fo_24_4, T.fo_24_5, T.fo_24_9, T.gf_42, T.gf_43, T.gf_44, T.ib_25, T.ib_3, T.ib_35, T.ib_9, T.ii_22, T.ii_3, T.ii_35, T.ii_5, T.ii_9, T.ip_25, T.ip_3, T.ip_35, T.ip_9, T.pl_24, T.s8_22, T.s8_3, T.s8_35, T.s8_5, T.s8_9, T.sl_22, T.sl_3, T.sl_35, T.sl_5, T.sl_9, T.st_22, T.st_3, T.st_35, T.st_5, T.st_9, T.un_22, T.un_3, T.un_35, T.un_5, T.un_9, T.zo_24, r0, r4, r8, h9, g4, g8, Z24]
    refine ⟨by omega, CallsH.pure _ rfl (number_ph _ (by simp; omega) _) ?_⟩
    have ht4 : List.take (t.length + 1 - 5) (List.drop 4 t) = t.drop 4 := List.take_of_length_le (by simp)
    have hk : (IntKind.i64.wrap ((b.toNat : Int).tdiv 16)).tmod 4 = (kind b : Int) := by
      rw [Int.tdiv_eq_ediv_of_nonneg (by omega), i64wrap (by omega) (by omega), Int.tmod_eq_emod_of_nonneg (by omega), kind]; omega
    simp (config := { dsimp := false, maxSteps := 10000000 }) (disch := omega) only [go_sem, reduceIte, Nat.reduceEqDiff, reduceCtorEq, Nat.reduceAdd, Nat.reduceMul, Int.reduceToNat, Int.reduceLE, Int.reduceLT, Int.reduceEq, Int.reduceNe, Nat.reduceLeDiff, Int.reducePow, Nat.reducePow, Nat.reduceLT, Nat.reduceSub, Nat.reduceMod, Nat.reduceDiv, slot_neg, slot_pos, T.ag_22, T.ag_24, T.ag_3, T.ag_9, T.eb_22, T.es_9, T.ez_22, T.fo_24_0, T.fo_24_2, T.fo_24_3, T.fo_24_4, T.fo_24_5, T.fo_24_9, T.gf_42, T.gf_43, T.gf_44, T.ib_25, T.ib_3, T.ib_35, T.ib_9, T.ii_22, T.ii_3, T.ii_35, T.ii_5, T.ii_9, T.ip_25, T.ip_3, T.ip_35, T.ip_9, T.pl_24, T.s8_22, T.s8_3, T.s8_35, T.s8_5, T.s8_9, T.sl_22, T.sl_3, T.sl_35, T.sl_5, T.sl_9, T.st_22, T.st_3, T.st_35, T.st_5, T.st_9, T.un_22, T.un_3, T.un_35, T.un_5, T.un_9, T.zo_24, r0, r4, r8, h9, g4, g8, Z24, ht4, hk]
    refine ⟨by omega, CallsH.pure _ rfl (name_ph _ (by simp; omega) _) ?_⟩
    simp (config := { dsimp := false, maxSteps := 10000000 }) (disch := omega) only [go_sem, reduceIte, Nat.reduceEqDiff, reduceCtorEq, Nat.reduceAdd, Nat.reduceMul, Int.reduceToNat, Int.reduceLE, Int.reduceLT, Int.reduceEq, Int.reduceNe, Nat.reduceLeDiff, Int.reducePow, Nat.reducePow, Nat.reduceLT, Nat.reduceSub, Nat.reduceMod, Nat.reduceDiv, slot_neg, slot_pos, T.ag_22, T.ag_24, T.ag_3, T.ag_9, T.eb_22, T.es_9, T.ez_22, T.fo_24_0, T.fo_24_2, T.fo_24_3, T.fo_24_4, T.fo_24_5, T.fo_24_9, T.gf_42, T.gf_43, T.gf_44, T.ib_25, T.ib_3, T.ib_35, T.ib_9, T.ii_22, T.ii_3, T.ii_35, T.ii_5, T.ii_9, T.ip_25, T.ip_3, T.ip_35, T.ip_9, T.pl_24, T.s8_22, T.s8_3, T.s8_35, T.s8_5, T.s8_9, T.sl_22, T.sl_3, T.sl_35, T.sl_5, T.sl_9, T.st_22, T.st_3, T.st_35, T.st_5, T.st_9, T.un_22, T.un_3, T.un_35, T.un_5, T.un_9, T.zo_24, r0, r4, r8, h9, g4, g8, Z24]
    refine ⟨fun he => GRes.none' _ _ ?_, fun he => ⟨H.next, ⟨⟨r0, r4, r8, ?_, ?_, ?_⟩, nx, ?_, rfl, ?_, rfl⟩, h10, Classical.not_not.1 he⟩⟩
    · unfold docD; rw [if_pos he]
    · rw [get_put, if_neg (by omega), get_alloc, if_neg (by omega)]; exact g4
    · rw [get_put, if_neg (by omega), get_alloc, if_neg (by omega)]; exact g8
    · simp [Heap.put, Heap.alloc]; omega
    · simp [Heap.put, Heap.alloc]
    · rw [get_put, if_pos rfl]; rfl
  rintro r H ⟨hc, hE, h10, h12, hde⟩
  generalize hd : nameS (t.drop 4) = d at hE h12 hde
  have hdl : d.2.1.length ≤ t.length := by rw [← hd]; exact Nat.le_trans (nameS_le _) (by simp)
  have hdoc : docD (kind b) (t.length + 1) vs (numW (t.take 4)) d = docS (kind b) (t.length + 1) vs (numW (t.take 4)) d.1 (nameS d.2.1) := by unfold docD; rw [if_neg (by simp [hde])]
  rw [hdoc]
  clear hdoc
  obtain ⟨dn, dr, de⟩ := d
  simp only at hE h12 hde hdl
  simp only []
  subst hde
  refine CodeH.cut3 [] hm (fun r H => GE r H h.next hc (b :: t) (hd9 (kind b) (numW (t.take 4)) dn (nameS dr).1 [] 0 ++ [.slice none 0 0]) (nameS dr).2.1 ∧ r 10 = .bool vs ∧ (nameS dr).2.2 = 0) (by kernel_rfl) ?_ ?_
  · obtain ⟨⟨r0, r4, r8, g4, g8, nx⟩, c1, c2, r11, g11, r13⟩ := hE
    simp (config := { dsimp := false, maxSteps := 10000000 }) (disch := omega) only [go_sem, reduceIte, Nat.reduceEqDiff, reduceCtorEq, Nat.reduceAdd, Nat.reduceMul, Int.reduceToNat, Int.reduceLE, Int.reduceLT, Int.reduceEq, Int.reduceNe, Nat.reduceLeDiff, Int.reducePow, Nat.reducePow, Nat.reduceLT, Nat.reduceSub, Nat.reduceMod, Nat.reduceDiv, slot_neg, slot_pos, T.ag_22, T.ag_24, T.ag_3, T.ag_9, T.eb_22, T.es_9, T.ez_22, T.fo_24_0, T.fo_24_2, T.fo_24_3, T.fo_24_4, T.fo_24_5, T.fo_24_9, T.gf_42, T.gf_43, T.gf_44, T.ib_25, T.ib_3, T.ib_35, T.ib_9, T.ii_22, T.ii_3, T.ii_35, T.ii_5, T.ii_9, T.ip_25, T.ip_3, T.ip_35, T.ip_9, T.pl_24, T.s8_22, T.s8_3, T.s8_35, T.s8_5, T.s8_9, T.sl_22, T.sl_3, T.sl_35, T.sl_5, T.sl_9, T.st_22, T.st_3, T.st_35, T.st_5, T.st_9, T.un_22, T.un_3, T.un_35, T.un_5, T.un_9, T.zo_24, r0, r4, r8, r11, r13, h12, g4, g8, g11, Z24, hd9]
    refine CallsH.pure _ rfl (name_ph _ (by omega) _) ?_
    simp (config := { dsimp := false, maxSteps := 10000000 }) (disch := omega) only [go_sem, reduceIte, Nat.reduceEqDiff, reduceCtorEq, Nat.reduceAdd, Nat.reduceMul, Int.reduceToNat, Int.reduceLE, Int.reduceLT, Int.reduceEq, Int.reduceNe, Nat.reduceLeDiff, Int.reducePow, Nat.reducePow, Nat.reduceLT, Nat.reduceSub, Nat.reduceMod, Nat.reduceDiv, slot_neg, slot_pos, T.ag_22, T.ag_24, T.ag_3, T.ag_9, T.eb_22, T.es_9, T.ez_22, T.fo_24_0, T.fo_24_2, T.fo_24_3, T.fo_24_4, T.fo_24_5, T.fo_24_9, T.gf_42, T.gf_43, T.gf_44, T.ib_25, T.ib_3, T.ib_35, T.ib_9, T.ii_22, T.ii_3, T.ii_35, T.ii_5, T.ii_9, T.ip_25, T.ip_3, T.ip_35, T.ip_9, T.pl_24, T.s8_22, T.s8_3, T.s8_35, T.s8_5, T.s8_9, T.sl_22, T.sl_3, T.sl_35, T.sl_5, T.sl_9, T.st_22, T.st_3, T.st_35, T.st_5, T.st_9, T.un_22, T.un_3, T.un_35, T.un_5, T.un_9, T.zo_24, r0, r4, r8, r11, r13, h12, g4, g8, g11, Z24, hd9]
    refine ⟨fun he => GRes.none' _ _ (by unfold docS; rw [if_pos he]), fun he => ⟨⟨⟨r0, r4, r8, ?_, ?_, nx⟩, c1, c2, r11, ?_, rfl⟩, h10, Classical.not_not.1 he⟩⟩
    · rw [get_put, if_neg (by omega), get_put, if_neg (by omega)]; exact g4
    · rw [get_put, if_neg (by omega), get_put, if_neg (by omega)]; exact g8
    · rw [get_put, if_pos rfl]
  rintro r H ⟨hE, h10, hse⟩
  generalize hs : nameS dr = s at hE hse
  have hsl : s.2.1.length ≤ t.length := by rw [← hs]; exact Nat.le_trans (nameS_le _) hdl
  have hdoc : docS (kind b) (t.length + 1) vs (numW (t.take 4)) dn s = docR (kind b) (t.length + 1) vs (numW (t.take 4)) dn s.1 s.2.1 := by unfold docS; rw [if_neg (by simp [hse])]
  rw [hdoc]
  clear hdoc
  obtain ⟨sn, rest, se⟩ := s
  simp only at hE hse hsl
  simp only []
  generalize numW (t.take 4) = num at hE
  clear hd hs hdl
  refine CodeH.cut1 [] hm (fun r H => vs = false ∧ GE r H h.next hc (b :: t) (hd9 (kind b) num dn sn [] 0 ++ [.slice none 0 0]) rest) (by kernel_rfl) ?_ ?_
  · obtain ⟨⟨r0, r4, r8, g4, g8, nx⟩, c1, c2, r11, g11, r13⟩ := hE
    cases vs
    · simp (config := { dsimp := false, maxSteps := 10000000 }) (disch := omega) only [go_sem, reduceIte, Nat.reduceEqDiff, reduceCtorEq, Nat.reduceAdd, Nat.reduceMul, Int.reduceToNat, Int.reduceLE, Int.reduceLT, Int.reduceEq, Int.reduceNe, Nat.reduceLeDiff, Int.reducePow, Nat.reducePow, Nat.reduceLT, Nat.reduceSub, Nat.reduceMod, Nat.reduceDiv, slot_neg, slot_pos, T.ag_22, T.ag_24, T.ag_3, T.ag_9, T.eb_22, T.es_9, T.ez_22, T.fo_24_0, T.fo_24_2, T.fo_24_3, T.fo_24_4, T.fo_24_5, T.fo_24_9, T.gf_42, T.gf_43, T.gf_44, T.ib_25, T.ib_3, T.ib_35, T.ib_9, T.ii_22, T.ii_3, T.ii_35, T.ii_5, T.ii_9, T.ip_25, T.ip_3, T.ip_35, T.ip_9, T.pl_24, T.s8_22, T.s8_3, T.s8_35, T.s8_5, T.s8_9, T.sl_22, T.sl_3, T.sl_35, T.sl_5, T.sl_9, T.st_22, T.st_3, T.st_35, T.st_5, T.st_9, T.un_22, T.un_3, T.un_35, T.un_5, T.un_9, T.zo_24, h10]
      exact ⟨⟨r0, r4, r8, g4, g8, nx⟩, c1, c2, r11, g11, r13⟩
    · have hr4 : ((rest.length : Int).tmod 4 = 0) = (rest.length % 4 = 0) := by
        rw [Int.tmod_eq_emod_of_nonneg (by omega)]; exact propext (by omega)
      simp (config := { dsimp := false, maxSteps := 10000000 }) (disch := omega) only [go_sem, reduceIte, Nat.reduceEqDiff, reduceCtorEq, Nat.reduceAdd, Nat.reduceMul, Int.reduceToNat, Int.reduceLE, Int.reduceLT, Int.reduceEq, Int.reduceNe, Nat.reduceLeDiff, Int.reducePow, Nat.reducePow, Nat.reduceLT, Nat.reduceSub, Nat.reduceMod, Nat.reduceDiv, slot_neg, slot_pos, T.ag_22, T.ag_24, T.ag_3, T.ag_9, T.eb_22, T.es_9, T.ez_22, T.fo_24_0, T.fo_24_2, T.fo_24_3, T.fo_24_4, T.fo_24_5, T.fo_24_9, T.gf_42, T.gf_43, T.gf_44, T.ib_25, T.ib_3, T.ib_35, T.ib_9, T.ii_22, T.ii_3, T.ii_35, T.ii_5, T.ii_9, T.ip_25, T.ip_3, T.ip_35, T.ip_9, T.pl_24, T.s8_22, T.s8_3, T.s8_35, T.s8_5, T.s8_9, T.sl_22, T.sl_3, T.sl_35, T.sl_5, T.sl_9, T.st_22, T.st_3, T.st_35, T.st_5, T.st_9, T.un_22, T.un_3, T.un_35, T.un_5, T.un_9, T.zo_24, h10, r0, r4, r8, r11, r13, g4, g8, g11, Z24, hd9, hr4]
      have no2 : (rest.length % 4 ≠ 0 ∨ rest.length = 0 ∨ 64 < rest.length) → docR (kind b) (t.length + 1) true num dn sn rest = noneR 2 := fun x => by
        unfold docR; rw [if_pos rfl, if_pos x]
      refine ⟨fun a1 => ⟨fun a2 => ⟨fun a3 => GRes.none' 2 _ (no2 (by omega)), fun a3 => ?_⟩, fun a2 => GRes.none' 2 _ (no2 (by omega))⟩, fun a1 => GRes.none' 2 _ (no2 (by omega))⟩
      refine loop_intro [] hm (fun r H => ∃ i lst, 4 * i ≤ rest.length ∧ GE r H h.next hc (b :: t) (hd9 5 num dn sn [] 0 ++ [lst]) (rest.drop (4 * i)) ∧ SlW H h.next hc lst (foursW i rest)) (fun r _ => match r 13 with | .string s => s.size | _ => 0) ?_ ?_
      · exact ⟨0, _, by omega, ⟨⟨r0, r4, r8, by rw [get_put, if_neg (by omega)]; exact g4, by rw [get_put, if_neg (by omega)]; exact g8, nx⟩, c1, c2, r11, by rw [get_put, if_pos rfl]; rfl, r13⟩, .inl ⟨rfl, rfl⟩⟩
      · rintro r H ⟨i, lst, hi, hE, hW⟩
        obtain ⟨⟨r0, r4, r8, g4, g8, nx⟩, c1, c2, r11, g11, r13⟩ := hE
        by_cases hend : 4 * i = rest.length
        · have he : rest.drop (4 * i) = [] := List.drop_of_length_le (by omega)
          rw [he] at r13
          have hi4 : rest.length / 4 = i := by omega
          have hdoc : docR (kind b) (t.length + 1) true num dn sn rest = ⟨hd9 5 num dn sn [] 0, foursW i rest, ((t.length + 1 : Nat) : Int), ((t.length + 1 : Nat) : Int), 0⟩ := by
            unfold docR; rw [if_pos rfl, if_neg (by omega), hi4]
          simp (config := { dsimp := false, maxSteps := 10000000 }) (disch := omega) only [go_sem, reduceIte, Nat.reduceEqDiff, reduceCtorEq, Nat.reduceAdd, Nat.reduceMul, Int.reduceToNat, Int.reduceLE, Int.reduceLT, Int.reduceEq, Int.reduceNe, Nat.reduceLeDiff, Int.reducePow, Nat.reducePow, Nat.reduceLT, Nat.reduceSub, Nat.reduceMod, Nat.reduceDiv, slot_neg, slot_pos, T.ag_22, T.ag_24, T.ag_3, T.ag_9, T.eb_22, T.es_9, T.ez_22, T.fo_24_0, T.fo_24_2, T.fo_24_3, T.fo_24_4, T.fo_24_5, T.fo_24_9, T.gf_42, T.gf_43, T.gf_44, T.ib_25, T.ib_3, T.ib_35, T.ib_9, T.ii_22, T.ii_3, T.ii_35, T.ii_5, T.ii_9, T.ip_25, T.ip_3, T.ip_35, T.ip_9, T.pl_24, T.s8_22, T.s8_3, T.s8_35, T.s8_5, T.s8_9, T.sl_22, T.sl_3, T.sl_35, T.sl_5, T.sl_9, T.st_22, T.st_3, T.st_35, T.st_5, T.st_9, T.un_22, T.un_3, T.un_35, T.un_5, T.un_9, T.zo_24, h10, r0, r4, r8, r11, r13, g4, g8, g11, Z24, hd9]
          rw [hdoc]
          refine ⟨hW.one, lst, rfl, ?_⟩
          rcases hW with hW | ⟨j, j1, j2, j3, j4, j5⟩
          · exact .inl hW
          · exact .inr ⟨j, .own, by omega, j4, by rw [get_put, if_neg (by omega)]; exact j5⟩
        · have he : (rest.drop (4 * i) = []) = False := eq_false (fun x => by have := congrArg List.length x; simp at this; omega)
          have hl4 : 4 ≤ (rest.drop (4 * i)).length := by simp; omega
          have hl4' : 4 ≤ ((rest.drop (4 * i)).length : Int) := by omega
          have hlt4 : (List.take 4 (rest.drop (4 * i))).length < 9223372036854775807 := by simp; omega
          have hsucc : foursW (i + 1) rest = foursW i rest ++ [numW (List.take 4 (List.drop (4 * i) rest))] := foursW_succ i rest
          have hwl := foursW_len i rest
          simp (config := { dsimp := false, maxSteps := 10000000 }) (disch := omega) only [go_sem, reduceIte, Nat.reduceEqDiff, reduceCtorEq, Nat.reduceAdd, Nat.reduceMul, Int.reduceToNat, Int.reduceLE, Int.reduceLT, Int.reduceEq, Int.reduceNe, Nat.reduceLeDiff, Int.reducePow, Nat.reducePow, Nat.reduceLT, Nat.reduceSub, Nat.reduceMod, Nat.reduceDiv, slot_neg, slot_pos, T.ag_22, T.ag_24, T.ag_3, T.ag_9, T.eb_22, T.es_9, T.ez_22, T.fo_24_0, T.fo_24_2, T.fo_24_3, T.fo_24_4, T.fo_24_5, T.fo_24_9, T.gf_42, T.gf_43, T.gf_44, T.ib_25, T.ib_3, T.ib_35, T.ib_9, T.ii_22, T.ii_3, T.ii_35, T.ii_5, T.ii_9, T.ip_25, T.ip_3, T.ip_35, T.ip_9, T.pl_24, T.s8_22, T.s8_3, T.s8_35, T.s8_5, T.s8_9, T.sl_22, T.sl_3, T.sl_35, T.sl_5, T.sl_9, T.st_22, T.st_3, T.st_35, T.st_5, T.st_9, T.un_22, T.un_3, T.un_35, T.un_5, T.un_9, T.zo_24, h10, r0, r4, r8, r11, r13, he]
          have fin : ∀ (r' : Regs) (H : Heap), (∃ lst, GE r' H h.next hc (b :: t) (hd9 5 num dn sn [] 0 ++ [lst]) (rest.drop (4 * i)) ∧ SlW H h.next hc lst (foursW (i + 1) rest)) → True := fun _ _ _ => trivial
          rcases hW with ⟨rfl, hl0⟩ | ⟨j, j1, j2, j3, rfl, j5⟩
          · refine draw_cut (fun r H => ∃ lst, GE r H h.next hc (b :: t) (hd9 5 num dn sn [] 0 ++ [lst]) (rest.drop (4 * i)) ∧ SlW H h.next hc lst (foursW (i + 1) rest)) [hc] (.take 0 (.take 2 (.take 3 (.alt 1 (.alt 4 (.alt 5 (.alt 6 (.take 7 (.alt 8 .done .stop)) .stop) .stop) .stop) (.alt 4 (.alt 1 (.alt 5 (.alt 6 (.take 7 (.alt 8 .done .stop)) .stop) .stop) (.alt 5 (.alt 1 (.alt 6 (.take 7 (.alt 8 .done .stop)) .stop) .stop) .stop)) .stop))))) hm (by kernel_rfl) (by kernel_rfl) ?_ ?_
            · simp (config := { dsimp := false, maxSteps := 10000000 }) (disch := omega) only [go_sem, reduceIte, Nat.reduceEqDiff, reduceCtorEq, Nat.reduceAdd, Nat.reduceMul, Int.reduceToNat, Int.reduceLE, Int.reduceLT, Int.reduceEq, Int.reduceNe, Nat.reduceLeDiff, Int.reducePow, Nat.reducePow, Nat.reduceLT, Nat.reduceSub, Nat.reduceMod, Nat.reduceDiv, slot_neg, slot_pos, T.ag_22, T.ag_24, T.ag_3, T.ag_9, T.eb_22, T.es_9, T.ez_22, T.fo_24_0, T.fo_24_2, T.fo_24_3, T.fo_24_4, T.fo_24_5, T.fo_24_9, T.gf_42, T.gf_43, T.gf_44, T.ib_25, T.ib_3, T.ib_35, T.ib_9, T.ii_22, T.ii_3, T.ii_35, T.ii_5, T.ii_9, T.ip_25, T.ip_3, T.ip_35, T.ip_9, T.pl_24, T.s8_22, T.s8_3, T.s8_35, T.s8_5, T.s8_9, T.sl_22, T.sl_3, T.sl_35, T.sl_5, T.sl_9, T.st_22, T.st_3, T.st_35, T.st_5, T.st_9, T.un_22, T.un_3, T.un_35, T.un_5, T.un_9, T.zo_24, h10, r0, r4, r8, r11, r13, g4, g8, g11, Z24, hd9]
              refine ⟨hl4', CallsH.pure _ rfl (number_ph _ hlt4 _) ?_, CallsH.pure _ rfl (number_ph _ hlt4 _) ?_⟩
              all_goals
                simp (config := { dsimp := false, maxSteps := 10000000 }) (disch := omega) only [go_sem, reduceIte, Nat.reduceEqDiff, reduceCtorEq, Nat.reduceAdd, Nat.reduceMul, Int.reduceToNat, Int.reduceLE, Int.reduceLT, Int.reduceEq, Int.reduceNe, Nat.reduceLeDiff, Int.reducePow, Nat.reducePow, Nat.reduceLT, Nat.reduceSub, Nat.reduceMod, Nat.reduceDiv, slot_neg, slot_pos, T.ag_22, T.ag_24, T.ag_3, T.ag_9, T.eb_22, T.es_9, T.ez_22, T.fo_24_0, T.fo_24_2, T.fo_24_3, T.fo_24_4, T.fo_24_5, T.fo_24_9, T.gf_42, T.gf_43, T.gf_44, T.ib_25, T.ib_3, T.ib_35, T.ib_9, T.ii_22, T.ii_3, T.ii_35, T.ii_5, T.ii_9, T.ip_25, T.ip_3, T.ip_35, T.ip_9, T.pl_24, T.s8_22, T.s8_3, T.s8_35, T.s8_5, T.s8_9, T.sl_22, T.sl_3, T.sl_35, T.sl_5, T.sl_9, T.st_22, T.st_3, T.st_35, T.st_5, T.st_9, T.un_22, T.un_3, T.un_35, T.un_5, T.un_9, T.zo_24, h10, r0, r4, r8, r11, r13, g4, g8, g11, Z24, hd9]
                (repeat' apply And.intro) <;> refine ⟨_, ⟨⟨r0, r4, r8, ?_, ?_, ?_⟩, c1, ?_, r11, ?_, r13⟩, .inr ⟨H.next + 1, ?_, ?_, ?_, rfl, ?_⟩⟩
                all_goals first
                  | omega
                  | (simp (config := { dsimp := false, maxSteps := 10000000 }) (disch := omega) only [go_sem, reduceIte, Nat.reduceEqDiff, reduceCtorEq, Nat.reduceAdd, Nat.reduceMul, Int.reduceToNat, Int.reduceLE, Int.reduceLT, Int.reduceEq, Int.reduceNe, Nat.reduceLeDiff, Int.reducePow, Nat.reducePow, Nat.reduceLT, Nat.reduceSub, Nat.reduceMod, Nat.reduceDiv, slot_neg, slot_pos, g4, g8, hsucc, hl0]; done)
                  | (simp (config := { dsimp := false, maxSteps := 10000000 }) (disch := omega) only [go_sem, reduceIte, Nat.reduceEqDiff, reduceCtorEq, Nat.reduceAdd, Nat.reduceMul, Int.reduceToNat, Int.reduceLE, Int.reduceLT, Int.reduceEq, Int.reduceNe, Nat.reduceLeDiff, Int.reducePow, Nat.reducePow, Nat.reduceLT, Nat.reduceSub, Nat.reduceMod, Nat.reduceDiv, slot_neg, slot_pos, g4, g8, hsucc, hl0]; omega)
                  | (simp (config := { dsimp := false, maxSteps := 10000000 }) (disch := omega) only [go_sem, reduceIte, Nat.reduceEqDiff, reduceCtorEq, Nat.reduceAdd, Nat.reduceMul, Int.reduceToNat, Int.reduceLE, Int.reduceLT, Int.reduceEq, Int.reduceNe, Nat.reduceLeDiff, Int.reducePow, Nat.reducePow, Nat.reduceLT, Nat.reduceSub, Nat.reduceMod, Nat.reduceDiv, slot_neg, slot_pos, g4, g8, hsucc, hl0]; rfl)
            · rintro r H ⟨lst, hE, hW⟩
              obtain ⟨⟨r0, r4, r8, g4, g8, nx⟩, c1, c2, r11, g11, r13'⟩ := hE
              simp (config := { dsimp := false, maxSteps := 10000000 }) (disch := omega) only [go_sem, reduceIte, Nat.reduceEqDiff, reduceCtorEq, Nat.reduceAdd, Nat.reduceMul, Int.reduceToNat, Int.reduceLE, Int.reduceLT, Int.reduceEq, Int.reduceNe, Nat.reduceLeDiff, Int.reducePow, Nat.reducePow, Nat.reduceLT, Nat.reduceSub, Nat.reduceMod, Nat.reduceDiv, slot_neg, slot_pos, T.ag_22, T.ag_24, T.ag_3, T.ag_9, T.eb_22, T.es_9, T.ez_22, T.fo_24_0, T.fo_24_2, T.fo_24_3, T.fo_24_4, T.fo_24_5, T.fo_24_9, T.gf_42, T.gf_43, T.gf_44, T.ib_25, T.ib_3, T.ib_35, T.ib_9, T.ii_22, T.ii_3, T.ii_35, T.ii_5, T.ii_9, T.ip_25, T.ip_3, T.ip_35, T.ip_9, T.pl_24, T.s8_22, T.s8_3, T.s8_35, T.s8_5, T.s8_9, T.sl_22, T.sl_3, T.sl_35, T.sl_5, T.sl_9, T.st_22, T.st_3, T.st_35, T.st_5, T.st_9, T.un_22, T.un_3, T.un_35, T.un_5, T.un_9, T.zo_24, r0, r4, r8, r11, r13', r13]
              have hdd : List.take ((List.drop (4 * i) rest).length - 4) (List.drop 4 (List.drop (4 * i) rest)) = rest.drop (4 * (i + 1)) := by
                rw [List.drop_drop, List.take_of_length_le (by simp; omega)]; congr 1
              rw [hdd]
              refine ⟨hl4', ⟨i + 1, lst, by omega, ⟨⟨r0, r4, r8, g4, g8, nx⟩, c1, c2, r11, g11, rfl⟩, hW⟩, ?_⟩
              simp; omega
          · refine draw_cut (fun r H => ∃ lst, GE r H h.next hc (b :: t) (hd9 5 num dn sn [] 0 ++ [lst]) (rest.drop (4 * i)) ∧ SlW H h.next hc lst (foursW (i + 1) rest)) [hc, j] (.take 0 (.take 2 (.take 3 (.alt 1 (.alt 4 (.alt 5 (.alt 6 (.take 7 (.alt 8 .done .stop)) .stop) .stop) .stop) (.alt 4 (.alt 1 (.alt 5 (.alt 6 (.take 7 (.alt 8 .done .stop)) .stop) .stop) (.alt 5 (.alt 1 (.alt 6 (.take 7 (.alt 8 .done .stop)) .stop) .stop) .stop)) .stop))))) hm (by kernel_rfl) (by kernel_rfl) ?_ ?_
            · simp (config := { dsimp := false, maxSteps := 10000000 }) (disch := omega) only [go_sem, reduceIte, Nat.reduceEqDiff, reduceCtorEq, Nat.reduceAdd, Nat.reduceMul, Int.reduceToNat, Int.reduceLE, Int.reduceLT, Int.reduceEq, Int.reduceNe, Nat.reduceLeDiff, Int.reducePow, Nat.reducePow, Nat.reduceLT, Nat.reduceSub, Nat.reduceMod, Nat.reduceDiv, slot_neg, slot_pos, T.ag_22, T.ag_24, T.ag_3, T.ag_9, T.eb_22, T.es_9, T.ez_22, T.fo_24_0, T.fo_24_2, T.fo_24_3, T.fo_24_4, T.fo_24_5, T.fo_24_9, T.gf_42, T.gf_43, T.gf_44, T.ib_25, T.ib_3, T.ib_35, T.ib_9, T.ii_22, T.ii_3, T.ii_35, T.ii_5, T.ii_9, T.ip_25, T.ip_3, T.ip_35, T.ip_9, T.pl_24, T.s8_22, T.s8_3, T.s8_35, T.s8_5, T.s8_9, T.sl_22, T.sl_3, T.sl_35, T.sl_5, T.sl_9, T.st_22, T.st_3, T.st_35, T.st_5, T.st_9, T.un_22, T.un_3, T.un_35, T.un_5, T.un_9, T.zo_24, h10, r0, r4, r8, r11, r13, g4, g8, g11, Z24, hd9, j5]
              refine ⟨hl4', CallsH.pure _ rfl (number_ph _ hlt4 _) ?_, CallsH.pure _ rfl (number_ph _ hlt4 _) ?_⟩
              all_goals
                have htk : List.take (foursW i rest).length (ic (foursW i rest)) = ic (foursW i rest) := List.take_of_length_le (by simp [ic])
                simp (config := { dsimp := false, maxSteps := 10000000 }) (disch := omega) only [go_sem, reduceIte, Nat.reduceEqDiff, reduceCtorEq, Nat.reduceAdd, Nat.reduceMul, Int.reduceToNat, Int.reduceLE, Int.reduceLT, Int.reduceEq, Int.reduceNe, Nat.reduceLeDiff, Int.reducePow, Nat.reducePow, Nat.reduceLT, Nat.reduceSub, Nat.reduceMod, Nat.reduceDiv, slot_neg, slot_pos, T.ag_22, T.ag_24, T.ag_3, T.ag_9, T.eb_22, T.es_9, T.ez_22, T.fo_24_0, T.fo_24_2, T.fo_24_3, T.fo_24_4, T.fo_24_5, T.fo_24_9, T.gf_42, T.gf_43, T.gf_44, T.ib_25, T.ib_3, T.ib_35, T.ib_9, T.ii_22, T.ii_3, T.ii_35, T.ii_5, T.ii_9, T.ip_25, T.ip_3, T.ip_35, T.ip_9, T.pl_24, T.s8_22, T.s8_3, T.s8_35, T.s8_5, T.s8_9, T.sl_22, T.sl_3, T.sl_35, T.sl_5, T.sl_9, T.st_22, T.st_3, T.st_35, T.st_5, T.st_9, T.un_22, T.un_3, T.un_35, T.un_5, T.un_9, T.zo_24, h10, r0, r4, r8, r11, r13, g4, g8, g11, Z24, hd9, j5, htk]
                (repeat' apply And.intro) <;> first
                  | (simp [ic]; done)
                  | omega
                  | refine ⟨.slice (some ⟨H.next + 1, 0, Option.none⟩) ((foursW i rest).length + 1) 1, ⟨⟨r0, r4, r8, ?_, ?_, ?_⟩, c1, ?_, r11, ?_, r13⟩, .inr ⟨H.next + 1, ?_, ?_, ?_, ?_, ?_⟩⟩
                all_goals first
                  | omega
                  | rfl
                  | (simp (config := { dsimp := false, maxSteps := 10000000 }) (disch := omega) only [go_sem, reduceIte, Nat.reduceEqDiff, reduceCtorEq, Nat.reduceAdd, Nat.reduceMul, Int.reduceToNat, Int.reduceLE, Int.reduceLT, Int.reduceEq, Int.reduceNe, Nat.reduceLeDiff, Int.reducePow, Nat.reducePow, Nat.reduceLT, Nat.reduceSub, Nat.reduceMod, Nat.reduceDiv, slot_neg, slot_pos, g4, g8, hsucc, List.length_append]; done)
                  | (simp (config := { dsimp := false, maxSteps := 10000000 }) (disch := omega) only [go_sem, reduceIte, Nat.reduceEqDiff, reduceCtorEq, Nat.reduceAdd, Nat.reduceMul, Int.reduceToNat, Int.reduceLE, Int.reduceLT, Int.reduceEq, Int.reduceNe, Nat.reduceLeDiff, Int.reducePow, Nat.reducePow, Nat.reduceLT, Nat.reduceSub, Nat.reduceMod, Nat.reduceDiv, slot_neg, slot_pos, g4, g8, hsucc, List.length_append]; omega)
                  | (simp (config := { dsimp := false, maxSteps := 10000000 }) (disch := omega) only [go_sem, reduceIte, Nat.reduceEqDiff, reduceCtorEq, Nat.reduceAdd, Nat.reduceMul, Int.reduceToNat, Int.reduceLE, Int.reduceLT, Int.reduceEq, Int.reduceNe, Nat.reduceLeDiff, Int.reducePow, Nat.reducePow, Nat.reduceLT, Nat.reduceSub, Nat.reduceMod, Nat.reduceDiv, slot_neg, slot_pos, g4, g8, hsucc, List.length_append]; rfl)
                  | (simp (config := { dsimp := false, maxSteps := 10000000 }) (disch := omega) only [go_sem, reduceIte, Nat.reduceEqDiff, reduceCtorEq, Nat.reduceAdd, Nat.reduceMul, Int.reduceToNat, Int.reduceLE, Int.reduceLT, Int.reduceEq, Int.reduceNe, Nat.reduceLeDiff, Int.reducePow, Nat.reducePow, Nat.reduceLT, Nat.reduceSub, Nat.reduceMod, Nat.reduceDiv, slot_neg, slot_pos, g4, g8, hsucc, List.length_append]; simp [ic]; done)
            · rintro r H ⟨lst, hE, hW⟩
              obtain ⟨⟨r0, r4, r8, g4, g8, nx⟩, c1, c2, r11, g11, r13'⟩ := hE
              simp (config := { dsimp := false, maxSteps := 10000000 }) (disch := omega) only [go_sem, reduceIte, Nat.reduceEqDiff, reduceCtorEq, Nat.reduceAdd, Nat.reduceMul, Int.reduceToNat, Int.reduceLE, Int.reduceLT, Int.reduceEq, Int.reduceNe, Nat.reduceLeDiff, Int.reducePow, Nat.reducePow, Nat.reduceLT, Nat.reduceSub, Nat.reduceMod, Nat.reduceDiv, slot_neg, slot_pos, T.ag_22, T.ag_24, T.ag_3, T.ag_9, T.eb_22, T.es_9, T.ez_22, T.fo_24_0, T.fo_24_2, T.fo_24_3, T.fo_24_4, T.fo_24_5, T.fo_24_9, T.gf_42, T.gf_43, T.gf_44, T.ib_25, T.ib_3, T.ib_35, T.ib_9, T.ii_22, T.ii_3, T.ii_35, T.ii_5, T.ii_9, T.ip_25, T.ip_3, T.ip_35, T.ip_9, T.pl_24, T.s8_22, T.s8_3, T.s8_35, T.s8_5, T.s8_9, T.sl_22, T.sl_3, T.sl_35, T.sl_5, T.sl_9, T.st_22, T.st_3, T.st_35, T.st_5, T.st_9, T.un_22, T.un_3, T.un_35, T.un_5, T.un_9, T.zo_24, r0, r4, r8, r11, r13', r13]
              have hdd : List.take ((List.drop (4 * i) rest).length - 4) (List.drop 4 (List.drop (4 * i) rest)) = rest.drop (4 * (i + 1)) := by
                rw [List.drop_drop, List.take_of_length_le (by simp; omega)]; congr 1
              rw [hdd]
              refine ⟨hl4', ⟨i + 1, lst, by omega, ⟨⟨r0, r4, r8, g4, g8, nx⟩, c1, c2, r11, g11, rfl⟩, hW⟩, ?_⟩
              simp; omega
  rintro r H ⟨rfl, hE⟩
  have hdoc : docR (kind b) (t.length + 1) false num dn sn rest = docK (kind b) (t.length + 1) num dn sn rest := by unfold docR; rw [if_neg (by simp)]
  rw [hdoc]
  clear hdoc
  have hkk : kind b < 4 := by unfold kind; omega
  refine CodeH.cut1 [] hm (fun r H => kind b ≠ 3 ∧ GE r H h.next hc (b :: t) (hd9 (kind b) num dn sn [] 0 ++ [.slice none 0 0]) rest) (by kernel_rfl) ?_ ?_
  · obtain ⟨⟨r0, r4, r8, g4, g8, nx⟩, c1, c2, r11, g11, r13⟩ := hE
    by_cases hk3 : kind b = 3
    · have hk3' : ((kind b : Int) = 3) = True := eq_true (by omega)
      simp (config := { dsimp := false, maxSteps := 10000000 }) (disch := omega) only [go_sem, reduceIte, Nat.reduceEqDiff, reduceCtorEq, Nat.reduceAdd, Nat.reduceMul, Int.reduceToNat, Int.reduceLE, Int.reduceLT, Int.reduceEq, Int.reduceNe, Nat.reduceLeDiff, Int.reducePow, Nat.reducePow, Nat.reduceLT, Nat.reduceSub, Nat.reduceMod, Nat.reduceDiv, slot_neg, slot_pos, T.ag_22, T.ag_24, T.ag_3, T.ag_9, T.eb_22, T.es_9, T.ez_22, T.fo_24_0, T.fo_24_2, T.fo_24_3, T.fo_24_4, T.fo_24_5, T.fo_24_9, T.gf_42, T.gf_43, T.gf_44, T.ib_25, T.ib_3, T.ib_35, T.ib_9, T.ii_22, T.ii_3, T.ii_35, T.ii_5, T.ii_9, T.ip_25, T.ip_3, T.ip_35, T.ip_9, T.pl_24, T.s8_22, T.s8_3, T.s8_35, T.s8_5, T.s8_9, T.sl_22, T.sl_3, T.sl_35, T.sl_5, T.sl_9, T.st_22, T.st_3, T.st_35, T.st_5, T.st_9, T.un_22, T.un_3, T.un_35, T.un_5, T.un_9, T.zo_24, r0, r4, r8, r11, r13, g4, g8, g11, Z24, hd9, hk3']
      have e : docK (kind b) (t.length + 1) num dn sn rest = if 512 < rest.length then noneR 2 else ⟨hd9 3 num dn sn rest 0, [], ((t.length + 1 : Nat) : Int), ((t.length + 1 : Nat) : Int), 0⟩ := by unfold docK; rw [if_pos hk3]
      rw [e]
      refine ⟨fun a1 => GRes.none' 2 _ (by rw [if_pos (by omega)]), fun a1 => ?_⟩
      rw [if_neg (by omega)]
      have hk3i : ((kind b : Nat) : Int) = 3 := by omega
      rw [hk3i]
      exact ⟨.slice Option.none 0 0, rfl, .inl ⟨rfl, rfl⟩⟩
    · have hk3' : ((kind b : Int) = 3) = False := eq_false (by omega)
      simp (config := { dsimp := false, maxSteps := 10000000 }) (disch := omega) only [go_sem, reduceIte, Nat.reduceEqDiff, reduceCtorEq, Nat.reduceAdd, Nat.reduceMul, Int.reduceToNat, Int.reduceLE, Int.reduceLT, Int.reduceEq, Int.reduceNe, Nat.reduceLeDiff, Int.reducePow, Nat.reducePow, Nat.reduceLT, Nat.reduceSub, Nat.reduceMod, Nat.reduceDiv, slot_neg, slot_pos, T.ag_22, T.ag_24, T.ag_3, T.ag_9, T.eb_22, T.es_9, T.ez_22, T.fo_24_0, T.fo_24_2, T.fo_24_3, T.fo_24_4, T.fo_24_5, T.fo_24_9, T.gf_42, T.gf_43, T.gf_44, T.ib_25, T.ib_3, T.ib_35, T.ib_9, T.ii_22, T.ii_3, T.ii_35, T.ii_5, T.ii_9, T.ip_25, T.ip_3, T.ip_35, T.ip_9, T.pl_24, T.s8_22, T.s8_3, T.s8_35, T.s8_5, T.s8_9, T.sl_22, T.sl_3, T.sl_35, T.sl_5, T.sl_9, T.st_22, T.st_3, T.st_35, T.st_5, T.st_9, T.un_22, T.un_3, T.un_35, T.un_5, T.un_9, T.zo_24, r0, r4, r8, r11, r13, g4, g8, g11, Z24, hd9, hk3']
      exact ⟨hk3, ⟨r0, r4, r8, g4, g8, nx⟩, c1, c2, r11, g11, r13⟩
  rintro r H ⟨hk3, hE⟩
  refine CodeH.cut1 [] hm (fun r H => ∃ tok rest', GE r H h.next hc (b :: t) (hd9 (kind b) num dn sn tok 0 ++ [.slice none 0 0]) rest' ∧ docK (kind b) (t.length + 1) num dn sn rest = docEnd (t.length + 1) (kind b) num dn sn tok rest' ∧ rest'.length ≤ t.length) (by kernel_rfl) ?_ ?_
  · obtain ⟨⟨r0, r4, r8, g4, g8, nx⟩, c1, c2, r11, g11, r13⟩ := hE
    by_cases hk0 : kind b = 0
    · have hk0' : ((kind b : Int) = 0) = True := eq_true (by omega)
      have hvl := vget_le rest
      obtain ⟨vn, vk, ve, hg⟩ : ∃ n k e, vget rest = (n, k, e) := ⟨_, _, _, rfl⟩
      rw [hg] at hvl
      simp only at hvl
      simp (config := { dsimp := false, maxSteps := 10000000 }) (disch := omega) only [go_sem, reduceIte, Nat.reduceEqDiff, reduceCtorEq, Nat.reduceAdd, Nat.reduceMul, Int.reduceToNat, Int.reduceLE, Int.reduceLT, Int.reduceEq, Int.reduceNe, Nat.reduceLeDiff, Int.reducePow, Nat.reducePow, Nat.reduceLT, Nat.reduceSub, Nat.reduceMod, Nat.reduceDiv, slot_neg, slot_pos, T.ag_22, T.ag_24, T.ag_3, T.ag_9, T.eb_22, T.es_9, T.ez_22, T.fo_24_0, T.fo_24_2, T.fo_24_3, T.fo_24_4, T.fo_24_5, T.fo_24_9, T.gf_42, T.gf_43, T.gf_44, T.ib_25, T.ib_3, T.ib_35, T.ib_9, T.ii_22, T.ii_3, T.ii_35, T.ii_5, T.ii_9, T.ip_25, T.ip_3, T.ip_35, T.ip_9, T.pl_24, T.s8_22, T.s8_3, T.s8_35, T.s8_5, T.s8_9, T.sl_22, T.sl_3, T.sl_35, T.sl_5, T.sl_9, T.st_22, T.st_3, T.st_35, T.st_5, T.st_9, T.un_22, T.un_3, T.un_35, T.un_5, T.un_9, T.zo_24, r0, r4, r8, r11, r13, g4, g8, g11, Z24, hd9, hk0']
      refine CallsH.pure _ rfl (Get44_ph _ (by omega) _) ?_
      rw [hg]
      simp only []
      have hk0i : ((kind b : Nat) : Int) = 0 := by omega
      have w1 : IntKind.i64.wrap ((rest.length : Int) - (vk : Int)) = ((rest.length - vk : Nat) : Int) := by rw [i64wrap] <;> omega
      have w2 : IntKind.i64.wrap (vn : Int) = (vn : Int) := by rw [i64wrap] <;> omega
      have hdk : docK (kind b) (t.length + 1) num dn sn rest = if (tokS rest).2.2 ≠ 0 then noneR (tokS rest).2.2 else docEnd (t.length + 1) 0 num dn sn (tokS rest).1 (tokS rest).2.1 := by
        unfold docK; rw [if_neg hk3, if_pos hk0]
      by_cases q1 : ve = 0
      · by_cases q2 : 512 < vn
        · have q2' : (512 < (vn : Int)) = True := eq_true (by omega)
          simp (config := { dsimp := false, maxSteps := 10000000 }) (disch := omega) only [go_sem, reduceIte, Nat.reduceEqDiff, reduceCtorEq, Nat.reduceAdd, Nat.reduceMul, Int.reduceToNat, Int.reduceLE, Int.reduceLT, Int.reduceEq, Int.reduceNe, Nat.reduceLeDiff, Int.reducePow, Nat.reducePow, Nat.reduceLT, Nat.reduceSub, Nat.reduceMod, Nat.reduceDiv, slot_neg, slot_pos, T.ag_22, T.ag_24, T.ag_3, T.ag_9, T.eb_22, T.es_9, T.ez_22, T.fo_24_0, T.fo_24_2, T.fo_24_3, T.fo_24_4, T.fo_24_5, T.fo_24_9, T.gf_42, T.gf_43, T.gf_44, T.ib_25, T.ib_3, T.ib_35, T.ib_9, T.ii_22, T.ii_3, T.ii_35, T.ii_5, T.ii_9, T.ip_25, T.ip_3, T.ip_35, T.ip_9, T.pl_24, T.s8_22, T.s8_3, T.s8_35, T.s8_5, T.s8_9, T.sl_22, T.sl_3, T.sl_35, T.sl_5, T.sl_9, T.st_22, T.st_3, T.st_35, T.st_5, T.st_9, T.un_22, T.un_3, T.un_35, T.un_5, T.un_9, T.zo_24, r0, r4, r8, r11, r13, g4, g8, g11, Z24, hd9, hk0', q1, q2']
          have ht : tokS rest = ([], [], 2) := by unfold tokS; rw [hg]; simp only []; rw [if_neg (by simp [q1]), if_pos q2]
          exact GRes.none' 2 _ (by rw [hdk, ht, if_pos (by simp)])
        · have q2' : (512 < (vn : Int)) = False := eq_false (by omega)
          by_cases q3 : rest.length - vk < vn
          · have q3' : (((rest.length - vk : Nat) : Int) < (vn : Int)) = True := eq_true (by omega)
            simp (config := { dsimp := false, maxSteps := 10000000 }) (disch := omega) only [go_sem, reduceIte, Nat.reduceEqDiff, reduceCtorEq, Nat.reduceAdd, Nat.reduceMul, Int.reduceToNat, Int.reduceLE, Int.reduceLT, Int.reduceEq, Int.reduceNe, Nat.reduceLeDiff, Int.reducePow, Nat.reducePow, Nat.reduceLT, Nat.reduceSub, Nat.reduceMod, Nat.reduceDiv, slot_neg, slot_pos, T.ag_22, T.ag_24, T.ag_3, T.ag_9, T.eb_22, T.es_9, T.ez_22, T.fo_24_0, T.fo_24_2, T.fo_24_3, T.fo_24_4, T.fo_24_5, T.fo_24_9, T.gf_42, T.gf_43, T.gf_44, T.ib_25, T.ib_3, T.ib_35, T.ib_9, T.ii_22, T.ii_3, T.ii_35, T.ii_5, T.ii_9, T.ip_25, T.ip_3, T.ip_35, T.ip_9, T.pl_24, T.s8_22, T.s8_3, T.s8_35, T.s8_5, T.s8_9, T.sl_22, T.sl_3, T.sl_35, T.sl_5, T.sl_9, T.st_22, T.st_3, T.st_35, T.st_5, T.st_9, T.un_22, T.un_3, T.un_35, T.un_5, T.un_9, T.zo_24, r0, r4, r8, r11, r13, g4, g8, g11, Z24, hd9, hk0', q1, q2', w1, w2, q3']
            have ht : tokS rest = ([], [], 3) := by unfold tokS; rw [hg]; simp only []; rw [if_neg (by simp [q1]), if_neg q2, if_pos q3]
            exact GRes.none' 3 _ (by rw [hdk, ht, if_pos (by simp)])
          · have q3' : (((rest.length - vk : Nat) : Int) < (vn : Int)) = False := eq_false (by omega)
            have w3 : IntKind.i64.wrap ((vk : Int) + (vn : Int)) = ((vk + vn : Nat) : Int) := by rw [i64wrap] <;> omega
            have s1 : List.take (vk + vn - vk) (List.drop vk rest) = (rest.drop vk).take vn := by congr 1; omega
            have s2 : List.take (rest.length - (vk + vn)) (List.drop (vk + vn) rest) = rest.drop (vk + vn) := List.take_of_length_le (by simp)
            simp (config := { dsimp := false }) only [go_sem, reduceIte, Nat.reduceEqDiff, reduceCtorEq, Nat.reduceAdd, Nat.reduceMul, Int.reduceToNat, Int.reduceLE, Int.reduceLT, Int.reduceEq, Int.reduceNe, Nat.reduceLeDiff, Int.reducePow, Nat.reducePow, Nat.reduceLT, Nat.reduceSub, Nat.reduceMod, Nat.reduceDiv, T.ag_22, T.ag_24, T.ag_3, T.ag_9, T.eb_22, T.es_9, T.ez_22, T.fo_24_0, T.fo_24_2, T.fo_24_3, T.fo_24_4, T.fo_24_5, T.fo_24_9, T.gf_42, T.gf_43, T.gf_44, T.ib_25, T.ib_3, T.ib_35, T.ib_9, T.ii_22, T.ii_3, T.ii_35, T.ii_5, T.ii_9, T.ip_25, T.ip_3, T.ip_35, T.ip_9, T.pl_24, T.s8_22, T.s8_3, T.s8_35, T.s8_5, T.s8_9, T.sl_22, T.sl_3, T.sl_35, T.sl_5, T.sl_9, T.st_22, T.st_3, T.st_35, T.st_5, T.st_9, T.un_22, T.un_3, T.un_35, T.un_5, T.un_9, T.zo_24, r0, r4, r8, r11, r13, g4, g8, g11, Z24, hd9, hk0', q1, q2', w1, w2, q3', w3, s1, s2]
            have ht : tokS rest = ((rest.drop vk).take vn, rest.drop (vk + vn), 0) := by
              unfold tokS; rw [hg]; simp only []; rw [if_neg (by simp [q1]), if_neg q2, if_neg q3]
            refine ⟨⟨by omega, by omega⟩, by omega, (rest.drop vk).take vn, _, ⟨⟨r0, r4, r8, ?_, ?_, nx⟩, c1, c2, r11, ?_, rfl⟩, ?_, ?_⟩
            · rw [get_put, if_neg (by omega)]; exact g4
            · rw [get_put, if_neg (by omega)]; exact g8
            · rw [get_put, if_pos rfl]
            · rw [hdk, ht, hk0i, if_neg (by simp)]
            · simp; omega
      · simp (config := { dsimp := false, maxSteps := 10000000 }) (disch := omega) only [go_sem, reduceIte, Nat.reduceEqDiff, reduceCtorEq, Nat.reduceAdd, Nat.reduceMul, Int.reduceToNat, Int.reduceLE, Int.reduceLT, Int.reduceEq, Int.reduceNe, Nat.reduceLeDiff, Int.reducePow, Nat.reducePow, Nat.reduceLT, Nat.reduceSub, Nat.reduceMod, Nat.reduceDiv, slot_neg, slot_pos, T.ag_22, T.ag_24, T.ag_3, T.ag_9, T.eb_22, T.es_9, T.ez_22, T.fo_24_0, T.fo_24_2, T.fo_24_3, T.fo_24_4, T.fo_24_5, T.fo_24_9, T.gf_42, T.gf_43, T.gf_44, T.ib_25, T.ib_3, T.ib_35, T.ib_9, T.ii_22, T.ii_3, T.ii_35, T.ii_5, T.ii_9, T.ip_25, T.ip_3, T.ip_35, T.ip_9, T.pl_24, T.s8_22, T.s8_3, T.s8_35, T.s8_5, T.s8_9, T.sl_22, T.sl_3, T.sl_35, T.sl_5, T.sl_9, T.st_22, T.st_3, T.st_35, T.st_5, T.st_9, T.un_22, T.un_3, T.un_35, T.un_5, T.un_9, T.zo_24, r0, r4, r8, r11, r13, g4, g8, g11, Z24, hd9, hk0', q1]
        have ht : tokS rest = ([], [], ve) := by unfold tokS; rw [hg]; simp only []; rw [if_pos q1]
        exact GRes.none' _ _ (by rw [hdk, ht, if_pos q1])
    · have hk0' : ((kind b : Int) = 0) = False := eq_false (by omega)
      simp (config := { dsimp := false, maxSteps := 10000000 }) (disch := omega) only [go_sem, reduceIte, Nat.reduceEqDiff, reduceCtorEq, Nat.reduceAdd, Nat.reduceMul, Int.reduceToNat, Int.reduceLE, Int.reduceLT, Int.reduceEq, Int.reduceNe, Nat.reduceLeDiff, Int.reducePow, Nat.reducePow, Nat.reduceLT, Nat.reduceSub, Nat.reduceMod, Nat.reduceDiv, slot_neg, slot_pos, T.ag_22, T.ag_24, T.ag_3, T.ag_9, T.eb_22, T.es_9, T.ez_22, T.fo_24_0, T.fo_24_2, T.fo_24_3, T.fo_24_4, T.fo_24_5, T.fo_24_9, T.gf_42, T.gf_43, T.gf_44, T.ib_25, T.ib_3, T.ib_35, T.ib_9, T.ii_22, T.ii_3, T.ii_35, T.ii_5, T.ii_9, T.ip_25, T.ip_3, T.ip_35, T.ip_9, T.pl_24, T.s8_22, T.s8_3, T.s8_35, T.s8_5, T.s8_9, T.sl_22, T.sl_3, T.sl_35, T.sl_5, T.sl_9, T.st_22, T.st_3, T.st_35, T.st_5, T.st_9, T.un_22, T.un_3, T.un_35, T.un_5, T.un_9, T.zo_24, r0, r4, r8, r11, r13, g4, g8, g11, Z24, hd9, hk0']
      exact ⟨[], rest, ⟨⟨r0, r4, r8, g4, g8, nx⟩, c1, c2, r11, g11, r13⟩, by unfold docK; rw [if_neg hk3, if_neg hk0], hsl⟩
  rintro r H ⟨tok, rest', hE, hdoc, hsl'⟩
  rw [hdoc]
  clear hdoc
  obtain ⟨⟨r0, r4, r8, g4, g8, nx⟩, c1, c2, r11, g11, r13⟩ := hE
  refine CodeH.of_vc [] hm (by kernel_rfl) ?_
  simp (config := { dsimp := false, maxSteps := 10000000 }) (disch := omega) only [go_sem, reduceIte, Nat.reduceEqDiff, reduceCtorEq, Nat.reduceAdd, Nat.reduceMul, Int.reduceToNat, Int.reduceLE, Int.reduceLT, Int.reduceEq, Int.reduceNe, Nat.reduceLeDiff, Int.reducePow, Nat.reducePow, Nat.reduceLT, Nat.reduceSub, Nat.reduceMod, Nat.reduceDiv, slot_neg, slot_pos, T.ag_22, T.ag_24, T.ag_3, T.ag_9, T.eb_22, T.es_9, T.ez_22, T.fo_24_0, T.fo_24_2, T.fo_24_3, T.fo_24_4, T.fo_24_5, T.fo_24_9, T.gf_42, T.gf_43, T.gf_44, T.ib_25, T.ib_3, T.ib_35, T.ib_9, T.ii_22, T.ii_3, T.ii_35, T.ii_5, T.ii_9, T.ip_25, T.ip_3, T.ip_35, T.ip_9, T.pl_24, T.s8_22, T.s8_3, T.s8_35, T.s8_5, T.s8_9, T.sl_22, T.sl_3, T.sl_35, T.sl_5, T.sl_9, T.st_22, T.st_3, T.st_35, T.st_5, T.st_9, T.un_22, T.un_3, T.un_35, T.un_5, T.un_9, T.zo_24, r0, r4, r8, r11, r13, g4, g8, g11, Z24, hd9]
  have hvl := vget_le rest'
  obtain ⟨vn, vk, ve, hg⟩ : ∃ n k e, vget rest' = (n, k, e) := ⟨_, _, _, rfl⟩
  rw [hg] at hvl
  simp only at hvl
  refine CallsH.pure _ rfl (Get44_ph _ (by omega) _) ?_
  rw [hg]
  simp only []
  have w2 : IntKind.i64.wrap (vn : Int) = (vn : Int) := by rw [i64wrap] <;> omega
  have s2 : List.take (rest'.length - vk) (List.drop vk rest') = rest'.drop vk := List.take_of_length_le (by simp)
  have hlr : (rest'.drop vk).length ≤ t.length := by simp; omega
  have w4 : IntKind.i64.wrap (((t.length + 1 : Nat) : Int) - ((rest'.drop vk).length : Int)) = ((t.length + 1 : Nat) : Int) - ((rest'.drop vk).length : Int) := by rw [i64wrap] <;> omega
  simp (config := { dsimp := false, maxSteps := 10000000 }) (disch := omega) only [go_sem, reduceIte, Nat.reduceEqDiff, reduceCtorEq, Nat.reduceAdd, Nat.reduceMul, Int.reduceToNat, Int.reduceLE, Int.reduceLT, Int.reduceEq, Int.reduceNe, Nat.reduceLeDiff, Int.reducePow, Nat.reducePow, Nat.reduceLT, Nat.reduceSub, Nat.reduceMod, Nat.reduceDiv, slot_neg, slot_pos, T.ag_22, T.ag_24, T.ag_3, T.ag_9, T.eb_22, T.es_9, T.ez_22, T.fo_24_0, T.fo_24_2, T.fo_24_3, T.fo_24_4, T.fo_24_5, T.fo_24_9, T.gf_42, T.gf_43, T.gf_44, T.ib_25, T.ib_3, T.ib_35, T.ib_9, T.ii_22, T.ii_3, T.ii_35, T.ii_5, T.ii_9, T.ip_25, T.ip_3, T.ip_35, T.ip_9, T.pl_24, T.s8_22, T.s8_3, T.s8_35, T.s8_5, T.s8_9, T.sl_22, T.sl_3, T.sl_35, T.sl_5, T.sl_9, T.st_22, T.st_3, T.st_35, T.st_5, T.st_9, T.un_22, T.un_3, T.un_35, T.un_5, T.un_9, T.zo_24, r0, r4, r8, r11, r13, g4, g8, g11, Z24, hd9, w2, s2, w4]
  refine ⟨fun q => GRes.none' _ _ (by unfold docEnd; rw [hg]; simp only []; rw [if_pos q]), fun q => ⟨fun q2 => GRes.none' 2 _ ?_, fun q2 => ⟨by omega, fun q3 => GRes.none' 3 _ ?_, fun q3 => ?_⟩⟩⟩
  · unfold docEnd; rw [hg]; simp only []; rw [if_neg q, if_pos (by omega)]
  · unfold docEnd; rw [hg]; simp only []; rw [if_neg q, if_neg (by omega), if_pos (by omega)]
  · have e : docEnd (t.length + 1) (kind b) num dn sn tok rest' = ⟨hd9 (kind b) num dn sn tok vn, [], ((t.length + 1 : Nat) : Int) - ((rest'.drop vk).length : Int), ((t.length + 1 : Nat) : Int) - ((rest'.drop vk).length : Int) + vn, 0⟩ := by
      unfold docEnd; rw [hg]; simp only []; rw [if_neg q, if_neg (by omega), if_neg (by omega)]
    have w5 : IntKind.i64.wrap (((t.length + 1 : Nat) : Int) - ((rest'.drop vk).length : Int) + (vn : Int)) = ((t.length + 1 : Nat) : Int) - ((rest'.drop vk).length : Int) + (vn : Int) := by rw [i64wrap] <;> omega
    rw [e, w5]
    exact ⟨.slice Option.none 0 0, rfl, .inl ⟨rfl, rfl⟩⟩
end Ph
