import Derived.Test.YthagjeomcgphiaaDoorN6
set_option maxRecDepth 100000
set_option maxHeartbeats 8000000
set_option linter.unusedSimpArgs false
set_option linter.unusedVariables false
namespace Ph
open Go Go.Proofs
attribute [local irreducible] Value.cells
attribute [local go_sem ↓] s_move s_assign s_pick s_nil s_bin s_un s_fa s_field s_ext s_ia s_ix s_slice s_conv s_build s_bs s_mf s_alloc s_box s_load s_store s_len s_min s_max s_app s_call q_call q_move q_assign q_pick q_nil q_bin q_un q_fa q_field q_ext q_ia q_ix q_slice q_conv q_build q_mf q_load q_len q_min q_max l_nil l_move l_assign l_pick l_nilc l_bin l_un l_fa l_field l_ext l_ia l_ix l_slice l_conv l_build l_mf l_load l_len l_min l_max l_call put_eq putN_eq o_nil o_plain o_gate v_nil v_plain v_gate vc_skip vc_region vc_seq vc_cond vc_block vc_loop vc_exit vc_ret blk_normal blk_ret blk_exit on_normal on_ret on_exit vc_drawn draw_q s_mk l_bs l_mk l_alloc l_box l_store l_app pl_done pl_take pl_alt pl_stop one_plain one_gate
attribute [local go_sem] onAgg_a onTuple_t onFunc_f c_int c_nil c_sl c_str sl_sl sl_nil sl_str ix_str ix_agg n_nil n_sl n_str app_eq k_nil k_sl len_sl len_str upd_some upd_none ev_tmp ev_const ev_func rd_some gdst_eq otmp_t otmp_c get_put get_alloc next_put next_alloc get_app next_app init_a resV1 resV2 onPtr_ptr onBool_b onInt_i onSlice_s onSome_s onCells_c lett_eq gate_tt gate_tf gate_ff gate_ft gate_dt gate_df also_eq bin un minmax io_none io_some bo_none bo_some partOf List.getElem?_cons_zero List.getElem?_cons_succ List.getElem?_toArray Option.map_some Option.map_none Option.bind_some ne_eq not_true_eq_false not_false_eq_true false_implies true_implies and_true true_and and_self Bool.false_eq_true Nat.zero_add Nat.add_zero List.size_toArray List.length_cons List.length_nil List.map_toArray List.map_cons List.map_nil Array.getD_eq_getD_getElem? Option.getD_some Bool.not_true Bool.not_false Bool.not_eq_true Option.isNone_some Option.isNone_none List.append_toArray List.append_nil List.nil_append List.cons_append decide_true decide_false in_nil in_cons Bool.and_false Bool.and_true Bool.or_false Bool.true_or Bool.false_or get_mask next_mask get_unmask next_unmask ac_move ac_assign ac_pick ac_nil ac_bin ac_un ac_fa ac_field ac_ext ac_ia ac_ix ac_slice ac_build ac_mf ac_call ac_load ac_conv accP_p accS_s accS_n accS_i accS_t fixed_ro fixed_lock fixed_own get_ro next_ro lock_live' lock_cells List.mem_cons List.not_mem_nil or_false false_or or_true true_or and_false false_and IntKind.bits Int.natCast_zero Int.natCast_one size_str data_str list_str mk_str ext_str app_str bytes_str w_byte w_byteu Int.toNat_natCast Int.toNat_zero Int.toNat_one Nat.sub_zero ge_iff_le gt_iff_lt Nat.le_refl Int.le_refl List.drop_zero Int.ofNat_eq_natCast Int.natCast_nonneg Int.sub_zero oc_int oc_bool oc_str oc_ptr oc_sl oc_map oc_func List.set_cons_zero List.set_cons_succ Nat.mul_one List.all_cons List.all_nil Bool.and_self res_nil res_tmp res_cell tup_one tup_two tup_nil fill_nil repl_zero cells_agg List.append_eq List.toList_toArray Nat.zero_mul Nat.one_mul repl_one repl_two onSome_build fill_cons onSome_lit splice_eq cells_int cells_bool cells_str cells_ptr cells_sl cells_map cells_func loadK_n loadK_s load_k storeK_n storeK_s store_k all_arr List.take_zero List.take_succ_cons List.drop_succ_cons List.take_nil List.drop_nil lk_own lk_ro lk_lock lk_lk fixed_lk gate_nt gate_nf gate3_b gate3_u undef Bool.true_and Bool.false_and nx_l nx_r nx_lt
/-- packets one behind the other, each with five bytes behind its number -/
structure Pk where
  B : List UInt8
  k : Int
  v : Int
  d : List UInt8
  s : List UInt8
  L : Int
  lst : Value
  pl : Int
def Pk.ok (p : Pk) : Prop := 5 ≤ p.B.length ∧ p.B.length ≤ 10005 ∧ 0 ≤ p.pl ∧ 0 ≤ p.L ∧ p.pl + p.L = p.B.length ∧ ∀ rest, docG (p.B ++ rest) 8 = ⟨hd9 p.k p.v p.d p.s [] p.L, [], p.pl, p.pl + p.L, 0⟩
def Pk.cs (p : Pk) : List Value := hdv p.k p.v p.d p.s [] p.L 0 0 false p.lst
def allB (l : List Pk) : List UInt8 := l.flatMap Pk.B
def allC (l : List Pk) : List Value := l.flatMap Pk.cs
def atsF : Nat → List Pk → List Int
  | _, [] => []
  | n, p :: l => ((n : Int) + p.pl) :: atsF (n + p.B.length) l
theorem atsF_len : ∀ (l : List Pk) (n : Nat), (atsF n l).length = l.length
  | [], _ => rfl
  | p :: l, n => by rw [atsF, List.length_cons, List.length_cons, atsF_len l]
theorem atsF_app : ∀ (l : List Pk) (n : Nat) (p : Pk), atsF n (l ++ [p]) = atsF n l ++ [((n + (allB l).length : Nat) : Int) + p.pl]
  | [], n, p => by simp [atsF, allB]
  | q :: l, n, p => by rw [List.cons_append, atsF, atsF, atsF_app l, List.cons_append]; simp [allB]; omega
theorem atsF_get : ∀ (l : List Pk) (n i : Nat) (p : Pk), l[i]? = some p → (atsF n l)[i]? = some (((n + (allB (l.take i)).length : Nat) : Int) + p.pl)
  | [], _, _, _, h => by simp at h
  | q :: l, n, 0, p, h => by simp at h; subst h; simp [atsF, allB]
  | q :: l, n, i + 1, p, h => by
    rw [atsF, List.getElem?_cons_succ, atsF_get l _ i p (by simpa using h)]
    simp [allB]; omega
theorem cs_len (p : Pk) : p.cs.length = 10 := rfl
theorem allC_len (l : List Pk) : (allC l).length = l.length * 10 := by
  induction l with | nil => rfl | cons p l ih => rw [allC, List.flatMap_cons, List.length_append, cs_len, ← allC, ih, List.length_cons]; omega
theorem allC_at : ∀ (l : List Pk) (i : Nat) (p : Pk), l[i]? = some p → ((allC l).drop (i * 10)).take 10 = p.cs
  | [], _, _, h => by simp at h
  | q :: l, 0, p, h => by simp at h; subst h; rw [allC, List.flatMap_cons, Nat.zero_mul, List.drop_zero, List.take_append_of_le_length (by rw [cs_len]; exact Nat.le_refl _), List.take_of_length_le (by rw [cs_len]; exact Nat.le_refl _)]
  | q :: l, i + 1, p, h => by
    rw [allC, List.flatMap_cons, Nat.succ_mul, List.drop_append, cs_len, Nat.add_sub_cancel, List.drop_of_length_le (by rw [cs_len]; omega), List.nil_append]
    exact allC_at l i p (by simpa using h)
theorem allC_get {l : List Pk} {i : Nat} {p : Pk} (h : l[i]? = some p) (j : Nat) (hj : j < 10) : (allC l)[i * 10 + j]? = p.cs[j]? := by
  rw [← allC_at l i p h, List.getElem?_take, if_pos hj, List.getElem?_drop]
theorem allB_app (l : List Pk) (p : Pk) : allB (l ++ [p]) = allB l ++ p.B := by simp [allB]
theorem allC_app (l : List Pk) (p : Pk) : allC (l ++ [p]) = allC l ++ p.cs := by simp [allC]
theorem allB_take : ∀ (l : List Pk) (i : Nat) (p : Pk), l[i]? = some p → (allB l).drop (allB (l.take i)).length = p.B ++ (allB l).drop (allB (l.take (i + 1))).length ∧ (allB (l.take (i + 1))).length = (allB (l.take i)).length + p.B.length ∧ (allB (l.take (i + 1))).length ≤ (allB l).length
  | [], _, _, h => by simp at h
  | q :: l, 0, p, h => by simp at h; subst h; simp [allB]
  | q :: l, i + 1, p, h => by
    obtain ⟨h1, h2, h3⟩ := allB_take l i p (by simpa using h)
    simp only [allB, List.take_succ_cons, List.flatMap_cons, List.length_append] at h1 h2 h3 ⊢
    have e : ∀ (X Y : List UInt8) (n : Nat), (X ++ Y).drop (X.length + n) = Y.drop n := fun X Y n => by
      rw [List.drop_append, List.drop_of_length_le (by omega), List.nil_append, Nat.add_sub_cancel_left]
    refine ⟨?_, by omega, by omega⟩
    rw [e, h2, e, ← h2]; exact h1
theorem rows_doc {K V : Int} {d s : List UInt8} {L N Z : Int} {ph : Bool} {l : List Int} {lst : Value} (hk : 0 ≤ K ∧ K < 3) (hr : rightP K V d s [] L N Z ph l) (hL : L = Z + 5) {b : UInt8} {t : List UInt8} (hp : putS K V d s [] L N Z ph l = b :: t) {b' : UInt8} (hb : 192 ≤ b.toNat → 192 ≤ b'.toNat ∧ kind b' = kind b) :
    Pk.ok ⟨b' :: t ++ [1, 2, 3, 4, 5], K, V, d, s, L, lst, (t.length : Int) + 1 - Z⟩ := by
  have hps := put_short hr
  rw [hp, List.length_cons] at hps
  obtain ⟨⟨hd, hs, ht5, hv, hlen, hnum, hl16, hlw⟩, hcase⟩ := id hr
  have hvw : 0 ≤ V ∧ V ≤ 4294967295 := by simpa [isW] using hv
  obtain ⟨V, rfl⟩ : ∃ V' : Nat, V = V' := ⟨V.toNat, by omega⟩
  obtain ⟨N, rfl⟩ : ∃ N' : Nat, N = N' := ⟨N.toNat, by omega⟩
  obtain ⟨L, rfl⟩ : ∃ L' : Nat, L = L' := ⟨L.toNat, by omega⟩
  obtain ⟨K, rfl⟩ : ∃ K' : Nat, K = K' := ⟨K.toNat, by omega⟩
  obtain ⟨hl0, hsz, hv0⟩ : l = [] ∧ (1 ≤ Z ∧ Z ≤ 4) ∧ (V : Int) ≠ 0 := by
    rcases hcase with ⟨_, h1, h2, h3, _⟩ | ⟨h, _⟩ | ⟨h, _⟩ | ⟨h, _⟩
    · exact ⟨h1, h2, h3⟩
    all_goals omega
  obtain ⟨Z, rfl⟩ : ∃ Z' : Nat, Z = Z' := ⟨Z.toNat, by omega⟩
  have hput : putS K V d s [] L N Z ph l = UInt8.ofNat (192 + 16 * K + Z - 1) :: (nmS V d s ++ ((if K = 0 then vtextS [] else []) ++ (vputS L 2 ++ lowS N Z))) := by
    rw [putS, if_neg (by omega), if_neg (by omega), if_neg (by omega)]
    by_cases hk0 : K = 0
    · rw [if_pos hk0, if_pos (by omega)]; simp
    · rw [if_neg hk0, if_neg (by omega)]; simp
  have hB : (UInt8.ofNat (192 + 16 * K + Z - 1)).toNat = 192 + 16 * K + Z - 1 := by rw [UInt8.toNat_ofNat']; omega
  have hkind : kind (UInt8.ofNat (192 + 16 * K + Z - 1)) = K := by unfold kind; rw [hB]; omega
  rw [hput] at hp
  obtain ⟨rfl, rfl⟩ : UInt8.ofNat (192 + 16 * K + Z - 1) = b ∧ _ = t := by simpa using hp
  obtain ⟨hb1, hb2⟩ := hb (by omega)
  rw [hkind] at hb2
  have hZ : Z ≤ (nmS V d s ++ ((if K = 0 then vtextS [] else []) ++ (vputS L 2 ++ lowS N Z))).length + 1 := by
    simp only [List.length_append, lowS_len]; omega
  refine ⟨by simp only [List.length_append, List.length_cons, List.length_nil]; omega, by simp only [List.length_append, List.length_cons, List.length_nil] at hps ⊢; omega, by simp only []; omega, by simp only []; omega, by simp only [List.length_append, List.length_cons, List.length_nil] at hps ⊢; omega, fun rest => ?_⟩
  simp only [List.cons_append, List.append_assoc]
  generalize hY : [1, 2, 3, 4, 5] ++ rest = Y
  have hYl : 5 ≤ Y.length := by rw [← hY]; simp
  have hY' : (1 :: 2 :: 3 :: 4 :: 5 :: ([] ++ rest) : List UInt8) = Y := hY
  rw [hY', docG_cons (by omega), if_neg (by omega), doc_long _ V d s _ hb1 (by omega) hd hs, hb2]
  unfold docR
  rw [if_neg (by simp; omega)]
  by_cases hk0 : K = 0
  · subst hk0
    simp only [if_true]
    unfold docK
    rw [if_neg (by decide), if_pos rfl, tok_put _ _ ht5, if_neg (by simp)]
    simp only []
    rw [end_put _ _ _ _ _ _ _ (by omega), if_neg (by rw [List.length_append, lowS_len]; omega)]
    simp only [List.length_append, lowS_len, vputS_len]
    congr 1 <;> omega
  · simp only [if_neg hk0]
    unfold docK
    rw [if_neg (by omega), if_neg hk0, List.nil_append, end_put _ _ _ _ _ _ _ (by omega), if_neg (by rw [List.length_append, lowS_len]; omega)]
    simp only [List.length_append, lowS_len, vputS_len, List.length_nil]
    congr 1 <;> omega
theorem bc_cons {b : UInt8} {t : List UInt8} : bc (b :: t) = .int .u8 b.toNat :: bc t := rfl
theorem wrap_u64_nn (x : Int) : 0 ≤ IntKind.u64.wrap x := by
  simp only [IntKind.wrap, IntKind.bits, IntKind.signed]; simp; omega
theorem xor_low (b : UInt8) {x : Int} (hx : 0 ≤ x ∧ x < 256) : ∃ b' : UInt8, IntKind.u8.wrap ((BitVec.ofInt IntKind.u8.bits (b.toNat : Int) ^^^ BitVec.ofInt IntKind.u8.bits (IntKind.u8.wrap ((BitVec.ofInt IntKind.u8.bits x &&& BitVec.ofInt IntKind.u8.bits 15).toNat : Int))).toNat : Int) = (b'.toNat : Int) ∧ (192 ≤ b.toNat → 192 ≤ b'.toNat ∧ kind b' = kind b) := by
  obtain ⟨c, rfl⟩ : ∃ c : Nat, x = c := ⟨x.toNat, by omega⟩
  have hb := b.toNat_lt
  have e : ∀ m : Nat, m < 256 → (BitVec.ofInt 8 (m : Int)).toNat = m := fun m hm => by simp; omega
  have e15 : (BitVec.ofInt 8 15).toNat = 15 := by decide
  have h1 : (BitVec.ofInt 8 (c : Int) &&& BitVec.ofInt 8 15).toNat = c % 16 := by
    rw [BitVec.toNat_and, e c (by omega), e15]; exact Nat.and_two_pow_sub_one_eq_mod c 4
  have h2 : IntKind.u8.wrap ((BitVec.ofInt 8 (c : Int) &&& BitVec.ofInt 8 15).toNat : Int) = ((c % 16 : Nat) : Int) := by rw [h1, u8wrap] <;> omega
  have h3 : (BitVec.ofInt 8 (b.toNat : Int) ^^^ BitVec.ofInt 8 ((c % 16 : Nat) : Int)).toNat = b.toNat ^^^ (c % 16) := by rw [BitVec.toNat_xor, e _ hb, e _ (by omega)]
  have h4 : b.toNat ^^^ (c % 16) < 2 ^ 8 := Nat.xor_lt_two_pow hb (by omega)
  have h5 : (b.toNat ^^^ (c % 16)) / 16 = b.toNat / 16 := by
    have := Nat.xor_div_two_pow (a := b.toNat) (b := c % 16) (n := 4)
    rw [show (2 : Nat) ^ 4 = 16 from rfl] at this
    rw [this, show c % 16 / 16 = 0 by omega, Nat.xor_zero]
  have h6 : (UInt8.ofNat (b.toNat ^^^ (c % 16))).toNat = b.toNat ^^^ (c % 16) := by rw [UInt8.toNat_ofNat']; exact Nat.mod_eq_of_lt h4
  refine ⟨UInt8.ofNat (b.toNat ^^^ (c % 16)), ?_, fun h => ?_⟩
  · show IntKind.u8.wrap ((BitVec.ofInt 8 (b.toNat : Int) ^^^ BitVec.ofInt 8 (IntKind.u8.wrap ((BitVec.ofInt 8 (c : Int) &&& BitVec.ofInt 8 15).toNat : Int))).toNat : Int) = _
    rw [h2, h3, h6, u8wrap] <;> omega
  · unfold kind
    rw [h6, h5]
    exact ⟨by omega, rfl⟩
theorem repl5 {v : Value} : repl 5 [v] = [v, v, v, v, v] := rfl
theorem Kept.app {h H : Heap} {a : Addr} {cs : List Value} (k : Kept h H) (ha : h.next ≤ a.block) : Kept h (appHeap H a cs) := ⟨Nat.le_trans k.1 (by rw [next_app]; omega), fun id hid => by
  have := k.1
  rw [get_app, if_neg (by omega), if_neg (by omega)]; exact k.2 id hid⟩
def Rows3 (h0 : Nat) (l : List Pk) (v5 v6 v7 : Value) (H : Heap) : Prop :=
  (l = [] ∧ v5 = .slice none 0 0 ∧ v6 = .slice none 0 0 ∧ v7 = .slice none 0 0) ∨
  ∃ jb jh ja, v5 = .slice (some ⟨jb, 0, none⟩) (allB l).length 1 ∧ v6 = .slice (some ⟨jh, 0, none⟩) l.length 10 ∧ v7 = .slice (some ⟨ja, 0, none⟩) l.length 1 ∧
    jb < H.next ∧ jh < H.next ∧ ja < H.next ∧ h0 ≤ jb ∧ h0 ≤ jh ∧ h0 ≤ ja ∧ jb ≠ jh ∧ jb ≠ ja ∧ jh ≠ ja ∧
    H.get jb = .live (.cells (bc (allB l)) .own) ∧ H.get jh = .live (.cells (allC l) .own) ∧ H.get ja = .live (.cells (ic (atsF 0 l)) .own)
def RowsI (h : Heap) (l : List Pk) (v5 v6 v7 : Value) (H : Heap) : Prop := Rows3 h.next l v5 v6 v7 H ∧ (∀ p ∈ l, p.ok ∧ SlX h p.lst [] ∧ ∀ a n m, p.lst = .slice (some a) n m → a.block < h.next) ∧ Kept h H ∧ (allB l).length ≤ 10005 * l.length
theorem RowsI.kept {h H H' : Heap} {l : List Pk} {v5 v6 v7 : Value} (hI : RowsI h l v5 v6 v7 H) (hk : Kept H H') : RowsI h l v5 v6 v7 H' := by
  obtain ⟨h1, h2, h3, h4⟩ := hI
  refine ⟨?_, h2, h3.trans hk, h4⟩
  rcases h1 with x | ⟨jb, jh, ja, q5, q6, q7, nb, nh, na, mb, mh, ma, d1, d2, d3, gb, gh, ga⟩
  · exact .inl x
  · have := hk.1
    exact .inr ⟨jb, jh, ja, q5, q6, q7, by omega, by omega, by omega, mb, mh, ma, d1, d2, d3, (hk.2 _ nb).trans gb, (hk.2 _ nh).trans gh, (hk.2 _ na).trans ga⟩
theorem rows_step {h H' : Heap} {l : List Pk} (p : Pk) {jb jh ja n : Nat} (hok : ∀ q ∈ l, q.ok ∧ SlX h q.lst [] ∧ ∀ a n m, q.lst = .slice (some a) n m → a.block < h.next) (hlen : (allB l).length ≤ 10005 * l.length)
    (hp : p.ok) (hps : SlX h p.lst []) (hpl : ∀ a n m, p.lst = .slice (some a) n m → a.block < h.next) (hk : Kept h H')
    (n1 : n = (allB (l ++ [p])).length) (nb : jb < H'.next) (nh : jh < H'.next) (na : ja < H'.next) (mb : h.next ≤ jb) (mh : h.next ≤ jh) (ma : h.next ≤ ja) (d1 : jb ≠ jh) (d2 : jb ≠ ja) (d3 : jh ≠ ja)
    (gb : H'.get jb = .live (.cells (bc (allB (l ++ [p]))) .own)) (gh : H'.get jh = .live (.cells (allC (l ++ [p])) .own)) (ga : H'.get ja = .live (.cells (ic (atsF 0 (l ++ [p]))) .own)) :
    RowsI h (l ++ [p]) (.slice (some ⟨jb, 0, none⟩) n 1) (.slice (some ⟨jh, 0, none⟩) (l.length + 1) 10) (.slice (some ⟨ja, 0, none⟩) (l.length + 1) 1) H' := by
  subst n1
  refine ⟨.inr ⟨jb, jh, ja, rfl, by rw [List.length_append]; rfl, by rw [List.length_append]; rfl, nb, nh, na, mb, mh, ma, d1, d2, d3, gb, gh, ga⟩, fun q hq => ?_, hk, ?_⟩
  · rcases List.mem_append.1 hq with hq | hq
    · exact hok q hq
    · obtain rfl : q = p := by simpa using hq
      exact ⟨hp, hps, hpl⟩
  · rw [allB_app, List.length_append, List.length_append, List.length_singleton]
    have := hp.2.1
    omega
theorem sum_mem {α : Type} {f : α → Nat} : ∀ {l : List α} {x : α}, x ∈ l → f x ≤ (l.map f).sum
  | [], _, h => by simp at h
  | y :: l, x, h => by
    rw [List.map_cons, List.sum_cons]
    rcases List.mem_cons.1 h with rfl | h
    · omega
    · have := sum_mem (f := f) h; omega
theorem sum_len {α : Type} {f : α → Nat} (hf : ∀ x, 1 ≤ f x) : ∀ l : List α, l.length ≤ (l.map f).sum
  | [] => by simp
  | y :: l => by rw [List.map_cons, List.sum_cons, List.length_cons]; have := sum_len hf l; have := hf y; omega
theorem PacketRows_ph (h : Heap) (l0 : (List (Int × Int × (List UInt8) × (List UInt8) × (List UInt8) × Int × Int × Int × Bool × (List Int)))) (s0 : Value) (hs0 : SlR (Rd.pair (Rd.int .i64) (Rd.pair (Rd.int .i64) (Rd.pair Rd.str (Rd.pair Rd.str (Rd.pair Rd.str (Rd.pair (Rd.int .i64) (Rd.pair (Rd.int .i64) (Rd.pair (Rd.int .i64) (Rd.pair Rd.bool (Rd.slice (Rd.int .i64))))))))))) h s0 l0) (x1 : Int) (wf0 : (l0.length ≤ maxLen ∧ ∀ x ∈ l0, ((Lit.int .i64 x.1).wf = true ∧ (Lit.int .i64 x.2.1).wf = true ∧ x.2.2.1.length ≤ maxLen ∧ x.2.2.2.1.length ≤ maxLen ∧ x.2.2.2.2.1.length ≤ maxLen ∧ (Lit.int .i64 x.2.2.2.2.2.1).wf = true ∧ (Lit.int .i64 x.2.2.2.2.2.2.1).wf = true ∧ (Lit.int .i64 x.2.2.2.2.2.2.2.1).wf = true ∧ True ∧ (x.2.2.2.2.2.2.2.2.2.length ≤ maxLen ∧ ∀ y ∈ x.2.2.2.2.2.2.2.2.2, (Lit.int .i64 y).wf = true)))) (wf1 : (Lit.int .u8 x1).wf = true) (hb : ((l0.map fun x => (1 + (1 + ((x.2.2.1.length + 1) + ((x.2.2.2.1.length + 1) + ((x.2.2.2.2.1.length + 1) + (1 + (1 + (1 + (1 + ((x.2.2.2.2.2.2.2.2.2.map fun y => 1).sum + 1))))))))))).sum + 1) + 1 ≤ 1048576) :
    @CallsH Tryd.prog 7 #[s0, .int .u8 x1] h ⟨fun u _ => u = .bool true⟩ := by
  simp only [sum_one] at hb
  have hll : l0.length ≤ 1048576 := by
    refine Nat.le_trans (sum_len (fun x => ?_) l0) (Nat.le_trans (Nat.le_trans (Nat.le_add_right _ 1) (Nat.le_add_right _ 1)) hb)
    omega
  have hel : ∀ x ∈ l0, x.2.2.2.2.2.2.2.2.2.length ≤ 1048576 := fun x hx => by
    have := Nat.le_trans (sum_mem (f := _) hx) (Nat.le_trans (Nat.le_trans (Nat.le_add_right _ 1) (Nat.le_add_right _ 1)) hb)
    omega
  have hx1 : 0 ≤ x1 ∧ x1 < 256 := by
    have := wf1
    simp [Lit.wf, IntKind.min, IntKind.max, IntKind.signed, IntKind.bits] at this
    omega
  refine calls_of_codeR (rs := [.tmp 4]) Tryd.func7 rfl rfl (by simp) ?_
  refine CodeH.cut3 [] hm (fun r H => r 0 = s0 ∧ r 1 = .int .u8 x1 ∧ r 5 = .slice none 0 0 ∧ H = h) (by kernel_rfl) ?_ ?_
  · simp (config := { dsimp := false, maxSteps := 10000000 }) (disch := omega) only [go_sem, reduceIte, Nat.reduceEqDiff, reduceCtorEq, Nat.reduceAdd, Nat.reduceMul, Int.reduceToNat, Int.reduceLE, Int.reduceLT, Int.reduceEq, Int.reduceNe, Nat.reduceLeDiff, Int.reducePow, Nat.reducePow, Nat.reduceLT, Nat.reduceSub, Nat.reduceMod, Nat.reduceDiv, slot_neg, slot_pos, T.ag_24, T.ag_3, T.ag_31, T.ag_5, T.ag_9, T.eb_22, T.eb_28, T.eb_48, T.es_22, T.es_28, T.es_48, T.ez_22, T.ez_28, T.ez_48, T.fo_24_0, T.fo_24_4, T.fo_24_5, T.fo_24_6, T.fo_24_7, T.gf_13, T.gf_14, T.gf_15, T.gf_19, T.gf_20, T.gf_21, T.ib_25, T.ib_3, T.ib_35, T.ib_5, T.ii_22, T.ii_28, T.ii_3, T.ii_35, T.ii_48, T.ip_25, T.ip_3, T.ip_35, T.ip_5, T.s8_22, T.s8_28, T.s8_3, T.s8_35, T.s8_48, T.sl_22, T.sl_28, T.sl_3, T.sl_35, T.sl_48, T.st_22, T.st_28, T.st_3, T.st_35, T.st_48, T.un_22, T.un_28, T.un_3, T.un_35, T.un_48, T.zo_24, T.zo_31, init_a]
    refine CallsH.pure _ rfl (heads_ph _) ?_
    simp (config := { dsimp := false, maxSteps := 10000000 }) (disch := omega) only [go_sem, reduceIte, Nat.reduceEqDiff, reduceCtorEq, Nat.reduceAdd, Nat.reduceMul, Int.reduceToNat, Int.reduceLE, Int.reduceLT, Int.reduceEq, Int.reduceNe, Nat.reduceLeDiff, Int.reducePow, Nat.reducePow, Nat.reduceLT, Nat.reduceSub, Nat.reduceMod, Nat.reduceDiv, slot_neg, slot_pos, T.ag_24, T.ag_3, T.ag_31, T.ag_5, T.ag_9, T.eb_22, T.eb_28, T.eb_48, T.es_22, T.es_28, T.es_48, T.ez_22, T.ez_28, T.ez_48, T.fo_24_0, T.fo_24_4, T.fo_24_5, T.fo_24_6, T.fo_24_7, T.gf_13, T.gf_14, T.gf_15, T.gf_19, T.gf_20, T.gf_21, T.ib_25, T.ib_3, T.ib_35, T.ib_5, T.ii_22, T.ii_28, T.ii_3, T.ii_35, T.ii_48, T.ip_25, T.ip_3, T.ip_35, T.ip_5, T.s8_22, T.s8_28, T.s8_3, T.s8_35, T.s8_48, T.sl_22, T.sl_28, T.sl_3, T.sl_35, T.sl_48, T.st_22, T.st_28, T.st_3, T.st_35, T.st_48, T.un_22, T.un_28, T.un_3, T.un_35, T.un_48, T.zo_24, T.zo_31, init_a]
  rintro r H ⟨r0, r1, r5, rfl⟩
  refine CodeH.cut3 [] hm (fun r H2 => ∃ l, l.length ≤ 8 ∧ RowsI H l (r 5) (r 6) (r 7) H2) (by kernel_rfl) ?_ ?_
  · simp (config := { dsimp := false, maxSteps := 10000000 }) (disch := omega) only [go_sem, reduceIte, Nat.reduceEqDiff, reduceCtorEq, Nat.reduceAdd, Nat.reduceMul, Int.reduceToNat, Int.reduceLE, Int.reduceLT, Int.reduceEq, Int.reduceNe, Nat.reduceLeDiff, Int.reducePow, Nat.reducePow, Nat.reduceLT, Nat.reduceSub, Nat.reduceMod, Nat.reduceDiv, slot_neg, slot_pos, T.ag_24, T.ag_3, T.ag_31, T.ag_5, T.ag_9, T.eb_22, T.eb_28, T.eb_48, T.es_22, T.es_28, T.es_48, T.ez_22, T.ez_28, T.ez_48, T.fo_24_0, T.fo_24_4, T.fo_24_5, T.fo_24_6, T.fo_24_7, T.gf_13, T.gf_14, T.gf_15, T.gf_19, T.gf_20, T.gf_21, T.ib_25, T.ib_3, T.ib_35, T.ib_5, T.ii_22, T.ii_28, T.ii_3, T.ii_35, T.ii_48, T.ip_25, T.ip_3, T.ip_35, T.ip_5, T.s8_22, T.s8_28, T.s8_3, T.s8_35, T.s8_48, T.sl_22, T.sl_28, T.sl_3, T.sl_35, T.sl_48, T.st_22, T.st_28, T.st_3, T.st_35, T.st_48, T.un_22, T.un_28, T.un_3, T.un_35, T.un_48, T.zo_24, T.zo_31, r0, r1, r5]
    have hs0' : (s0 = .slice none 0 0 ∧ l0 = []) ∨ ∃ p cells, s0 = .slice (some ⟨p, 0, none⟩) l0.length 10 ∧ p < H.next ∧ H.get p = .live (.cells cells .ro) ∧ cells.length = l0.length * 10 ∧ ∀ (k : Nat) (x : HdrT), l0[k]? = some x → rdH.rep H x ((cells.drop (k * 10)).take 10) := hs0
    clear hs0
    refine loop_intro [] hm (fun r' H' => ∃ (i : Nat) (l : List Pk), i ≤ 8 ∧ i ≤ l0.length ∧ l.length ≤ i ∧ r' 0 = s0 ∧ r' 1 = .int .u8 x1 ∧ r' 8 = .int .i64 i ∧ RowsI H l (r' 5) (r' 6) (r' 7) H') (fun r _ => match r 8 with | .int _ x => (9 - x).toNat | _ => 0) ?_ ?_
    · exact ⟨0, [], by omega, by omega, by simp, by simp (config := { dsimp := false, maxSteps := 10000000 }) (disch := omega) only [go_sem, reduceIte, Nat.reduceEqDiff, reduceCtorEq, Nat.reduceAdd, Nat.reduceMul, Int.reduceToNat, Int.reduceLE, Int.reduceLT, Int.reduceEq, Int.reduceNe, Nat.reduceLeDiff, Int.reducePow, Nat.reducePow, Nat.reduceLT, Nat.reduceSub, Nat.reduceMod, Nat.reduceDiv, slot_neg, slot_pos, r0], by simp (config := { dsimp := false, maxSteps := 10000000 }) (disch := omega) only [go_sem, reduceIte, Nat.reduceEqDiff, reduceCtorEq, Nat.reduceAdd, Nat.reduceMul, Int.reduceToNat, Int.reduceLE, Int.reduceLT, Int.reduceEq, Int.reduceNe, Nat.reduceLeDiff, Int.reducePow, Nat.reducePow, Nat.reduceLT, Nat.reduceSub, Nat.reduceMod, Nat.reduceDiv, slot_neg, slot_pos, r1], by simp (config := { dsimp := false, maxSteps := 10000000 }) (disch := omega) only [go_sem, reduceIte, Nat.reduceEqDiff, reduceCtorEq, Nat.reduceAdd, Nat.reduceMul, Int.reduceToNat, Int.reduceLE, Int.reduceLT, Int.reduceEq, Int.reduceNe, Nat.reduceLeDiff, Int.reducePow, Nat.reducePow, Nat.reduceLT, Nat.reduceSub, Nat.reduceMod, Nat.reduceDiv, slot_neg, slot_pos], by simp (config := { dsimp := false, maxSteps := 10000000 }) (disch := omega) only [go_sem, reduceIte, Nat.reduceEqDiff, reduceCtorEq, Nat.reduceAdd, Nat.reduceMul, Int.reduceToNat, Int.reduceLE, Int.reduceLT, Int.reduceEq, Int.reduceNe, Nat.reduceLeDiff, Int.reducePow, Nat.reducePow, Nat.reduceLT, Nat.reduceSub, Nat.reduceMod, Nat.reduceDiv, slot_neg, slot_pos, r5]; exact ⟨.inl ⟨rfl, rfl, rfl, rfl⟩, by simp, Kept.refl _, by simp [allB]⟩⟩
    rintro r' H' ⟨i, l, hi8, hil, hli, q0, q1, q8, hI⟩
    by_cases c1 : i < l0.length
    · have c1' : ((i : Int) < (l0.length : Int)) = True := eq_true (by omega)
      rcases hs0' with ⟨_, x⟩ | ⟨p, cells, rfl, hp, hpg, hcl, hrd⟩
      · rw [x] at c1; simp at c1
      by_cases c2 : i < 8
      · have c2' : ((i : Int) < 8) = True := eq_true (by omega)
        obtain ⟨x, hx⟩ : ∃ x, l0[i]? = some x := ⟨_, List.getElem?_eq_getElem c1⟩
        have hrx := hrd i x hx
        obtain ⟨k, v, d, s, t, len, num, sz, ph, ls⟩ := x
        obtain ⟨lst, hcs, hs, hlt⟩ := hdr_rep hrx
        have hl2 : ls.length ≤ 1048576 := hel _ (List.mem_of_getElem? hx)
        have o1 := hs.one
        have k1 := hs.cells
        have hpg' : H'.get p = .live (.cells cells .ro) := (hI.2.2.1.2 p hp).trans hpg
        have hpn' : p < H'.next := Nat.lt_of_lt_of_le hp hI.2.2.1.1
        have hcl2 : i * 10 + 10 ≤ cells.length := by omega
        simp (config := { dsimp := false, maxSteps := 10000000 }) (disch := omega) only [go_sem, reduceIte, Nat.reduceEqDiff, reduceCtorEq, Nat.reduceAdd, Nat.reduceMul, Int.reduceToNat, Int.reduceLE, Int.reduceLT, Int.reduceEq, Int.reduceNe, Nat.reduceLeDiff, Int.reducePow, Nat.reducePow, Nat.reduceLT, Nat.reduceSub, Nat.reduceMod, Nat.reduceDiv, slot_neg, slot_pos, T.ag_24, T.ag_3, T.ag_31, T.ag_5, T.ag_9, T.eb_22, T.eb_28, T.eb_48, T.es_22, T.es_28, T.es_48, T.ez_22, T.ez_28, T.ez_48, T.fo_24_0, T.fo_24_4, T.fo_24_5, T.fo_24_6, T.fo_24_7, T.gf_13, T.gf_14, T.gf_15, T.gf_19, T.gf_20, T.gf_21, T.ib_25, T.ib_3, T.ib_35, T.ib_5, T.ii_22, T.ii_28, T.ii_3, T.ii_35, T.ii_48, T.ip_25, T.ip_3, T.ip_35, T.ip_5, T.s8_22, T.s8_28, T.s8_3, T.s8_35, T.s8_48, T.sl_22, T.sl_28, T.sl_3, T.sl_35, T.sl_48, T.st_22, T.st_28, T.st_3, T.st_35, T.st_48, T.un_22, T.un_28, T.un_3, T.un_35, T.un_48, T.zo_24, T.zo_31, q0, q1, q8, c1', c2', hpg', hcs, o1, k1, hdv]
        have hKm : 0 ≤ (IntKind.u64.wrap k).tmod 3 ∧ (IntKind.u64.wrap k).tmod 3 < 3 := by
          have := wrap_u64_nn k
          exact ⟨Int.tmod_nonneg _ this, Int.tmod_lt_of_pos _ (by decide)⟩
        have hKw : IntKind.i64.wrap ((IntKind.u64.wrap k).tmod 3) = (IntKind.u64.wrap k).tmod 3 := i64wrap (by omega) (by omega)
        rw [hKw]
        generalize (IntKind.u64.wrap k).tmod 3 = K at hKm
        generalize hLw : IntKind.i64.wrap (sz + 5) = L
        refine ⟨hcl2, ?_⟩
        have hkA : Kept H' ((H'.alloc (.cells [.int .i64 0, .int .i64 0, .string (str []), .string (str []), .string (str []), .int .i64 0, .int .i64 0, .int .i64 0, .bool false, .slice none 0 0] .own)).put H'.next (.live (.cells [.int .i64 k, .int .i64 v, .string (str d), .string (str s), .string (str t), .int .i64 len, .int .i64 num, .int .i64 sz, .bool ph, lst] .own))) := (Kept.alloc _ _).put' (Nat.le_refl _)
        generalize hH1 : Heap.put _ _ _ = H1
        have hk1 : Kept H' H1 := by rw [← hH1]; exact ((((Kept.alloc _ _).put' (Nat.le_refl _)).put' (Nat.le_refl _)).put' (Nat.le_refl _)).put' (Nat.le_refl _)
        have g1 : H1.get H'.next = .live (.cells (hdv K v d s [] L num sz ph lst) .own) := by rw [← hH1, get_put, if_pos rfl]; rfl
        have n1 : H1.next = H'.next + 1 := by rw [← hH1]; rfl
        clear hH1 hkA
        have hltA : ∀ a n m, lst = .slice (some a) n m → a.block < H1.next := fun a n m e => by have := hlt a n m e; have := (hI.2.2.1.trans hk1).1; omega
        have hsA : SlX H1 lst ls := hs.kept (hI.2.2.1.trans hk1) hlt
        refine (to_ph H1 K v d s [] L num sz ph lst ls hsA hltA hl2).mono fun w H2 ⟨lst2, i2, hw, hk2, he2, hi2, hi2', hg2⟩ => ?_
        subst hw
        have hs2 : SlX H2 lst2 ls := .inr ⟨i2, 0, _, _, he2, hg2, by rw [List.drop_zero, List.take_of_length_le (by simp [ic])], by simp [ic]⟩
        simp (config := { dsimp := false, maxSteps := 10000000 }) (disch := omega) only [go_sem, reduceIte, Nat.reduceEqDiff, reduceCtorEq, Nat.reduceAdd, Nat.reduceMul, Int.reduceToNat, Int.reduceLE, Int.reduceLT, Int.reduceEq, Int.reduceNe, Nat.reduceLeDiff, Int.reducePow, Nat.reducePow, Nat.reduceLT, Nat.reduceSub, Nat.reduceMod, Nat.reduceDiv, slot_neg, slot_pos, T.ag_24, T.ag_3, T.ag_31, T.ag_5, T.ag_9, T.eb_22, T.eb_28, T.eb_48, T.es_22, T.es_28, T.es_48, T.ez_22, T.ez_28, T.ez_48, T.fo_24_0, T.fo_24_4, T.fo_24_5, T.fo_24_6, T.fo_24_7, T.gf_13, T.gf_14, T.gf_15, T.gf_19, T.gf_20, T.gf_21, T.ib_25, T.ib_3, T.ib_35, T.ib_5, T.ii_22, T.ii_28, T.ii_3, T.ii_35, T.ii_48, T.ip_25, T.ip_3, T.ip_35, T.ip_5, T.s8_22, T.s8_28, T.s8_3, T.s8_35, T.s8_48, T.sl_22, T.sl_28, T.sl_3, T.sl_35, T.sl_48, T.st_22, T.st_28, T.st_3, T.st_35, T.st_48, T.un_22, T.un_28, T.un_3, T.un_35, T.un_48, T.zo_24, T.zo_31, hdv]
        refine (Put_ph H2 K v d s [] L num sz ph lst2 ls hs2 (fun a n m e => by rw [he2] at e; cases e; exact hi2') (by omega)).mono fun w H3 ⟨hk3, hres⟩ => ?_
        have kA : Kept H' H3 := (hk1.trans hk2).trans hk3
        have g9 : H3.get H'.next = .live (.cells (hdv K v d s [] L num sz ph lst) .own) := by
          have := hk2.1
          rw [(hk2.trans hk3).2 _ (by omega), g1]
        have n9 : H'.next < H3.next := by have := hk2.1; have := hk3.1; omega
        by_cases hr : rightP K v d s [] L num sz ph ls
        · rw [if_pos hr] at hres
          have hsz : 1 ≤ sz ∧ sz ≤ 4 := by
            obtain ⟨_, hcase⟩ := hr
            rcases hcase with ⟨_, _, h, _⟩ | ⟨h, _⟩ | ⟨h, _⟩ | ⟨h, _⟩
            · exact h
            all_goals omega
          have hL5 : L = sz + 5 := by rw [← hLw, i64wrap] <;> omega
          obtain ⟨v1, j, hw, ⟨hv1, hj, hgj⟩, hj3⟩ := hres
          have hjn : H'.next < j := by have := hk2.1; omega
          subst hw hv1
          obtain ⟨b, bt, hp⟩ : ∃ b bt, putS K v d s [] L num sz ph ls = b :: bt := by
            cases e : putS K v d s [] L num sz ph ls with
            | nil =>
              unfold putS nmS at e
              repeat' split at e
              all_goals simp at e
            | cons b bt => exact ⟨b, bt, rfl⟩
          rw [hp] at hgj ⊢
          obtain ⟨b', hb1, hb2⟩ := xor_low b hx1
          have hok1 := rows_doc (lst := lst) hKm hr (by omega) hp hb2
          have hpl := put_short hr
          rw [hp, List.length_cons] at hpl
          have tk : List.take bt.length (bc bt) = bc bt := List.take_of_length_le (by rw [bc_len]; exact Nat.le_refl _)
          have w1 : IntKind.i64.wrap (0 + ((bt.length + 1 : Nat) : Int)) = bt.length + 1 := by rw [i64wrap] <;> omega
          have w2 : IntKind.i64.wrap ((bt.length : Int) + 1 - sz) = bt.length + 1 - sz := by rw [i64wrap] <;> omega
          have w3 : IntKind.i64.wrap ((i : Int) + 1) = ((i + 1 : Nat) : Int) := by rw [i64wrap] <;> omega
          have hkn := hI.2.2.1.1
          have hk3n := kA.1
          have hls : ls = [] := by
            obtain ⟨_, hcase⟩ := hr
            rcases hcase with ⟨_, h, _⟩ | ⟨h, _⟩ | ⟨h, _⟩ | ⟨h, _⟩
            · exact h
            all_goals omega
          have hph : ph = false := by
            obtain ⟨_, hcase⟩ := hr
            rcases hcase with ⟨_, _, _, _, h, _⟩ | ⟨h, _⟩ | ⟨h, _⟩ | ⟨h, _⟩
            · exact h
            all_goals omega
          subst hls hph
          rcases hI with ⟨⟨rfl, q5, q6, q7⟩ | ⟨jb, jh, ja, q5, q6, q7, nb, nh, na, mb, mh, ma, d1, d2, d3, gb, gh, ga⟩, hok, hkH, hlen⟩
          · simp (config := { dsimp := false, maxSteps := 10000000 }) (disch := omega) only [go_sem, reduceIte, Nat.reduceEqDiff, reduceCtorEq, Nat.reduceAdd, Nat.reduceMul, Int.reduceToNat, Int.reduceLE, Int.reduceLT, Int.reduceEq, Int.reduceNe, Nat.reduceLeDiff, Int.reducePow, Nat.reducePow, Nat.reduceLT, Nat.reduceSub, Nat.reduceMod, Nat.reduceDiv, slot_neg, slot_pos, T.ag_24, T.ag_3, T.ag_31, T.ag_5, T.ag_9, T.eb_22, T.eb_28, T.eb_48, T.es_22, T.es_28, T.es_48, T.ez_22, T.ez_28, T.ez_48, T.fo_24_0, T.fo_24_4, T.fo_24_5, T.fo_24_6, T.fo_24_7, T.gf_13, T.gf_14, T.gf_15, T.gf_19, T.gf_20, T.gf_21, T.ib_25, T.ib_3, T.ib_35, T.ib_5, T.ii_22, T.ii_28, T.ii_3, T.ii_35, T.ii_48, T.ip_25, T.ip_3, T.ip_35, T.ip_5, T.s8_22, T.s8_28, T.s8_3, T.s8_35, T.s8_48, T.sl_22, T.sl_28, T.sl_3, T.sl_35, T.sl_48, T.st_22, T.st_28, T.st_3, T.st_35, T.st_48, T.un_22, T.un_28, T.un_3, T.un_35, T.un_48, T.zo_24, T.zo_31, q0, q1, q5, q6, q7, q8, g9, hdv, hgj, bc_cons, List.set_cons_zero, o1, k1, repl5, List.drop_succ_cons, List.drop_zero, bc_len, bc_one, List.length_cons, List.length_nil, tk, hb1, w1, w2, w3]
            refine ⟨by omega, by omega, by omega, ⟨by omega, by omega⟩, ⟨by omega, by omega⟩, ⟨i + 1, [] ++ [⟨b' :: bt ++ [1, 2, 3, 4, 5], K, v, d, s, L, lst, (bt.length : Int) + 1 - sz⟩], by omega, by omega, by simp, rfl, ?_⟩, by omega⟩
            refine rows_step ⟨b' :: bt ++ [1, 2, 3, 4, 5], K, v, d, s, L, lst, (bt.length : Int) + 1 - sz⟩ hok hlen hok1 hs hlt ?_ (by simp [allB]) ?_ ?_ ?_ ?_ ?_ ?_ (by omega) (by omega) (by omega) ?_ ?_ ?_
            · exact (((((((((((hkH.trans kA).put' (by omega)).alloc').alloc').alloc').alloc').app (by show H.next ≤ H3.next + 1 + 1; omega)).put' (by omega)).put' (by omega)).alloc').alloc')
            · simp (config := { dsimp := false, maxSteps := 10000000 }) (disch := omega) only [go_sem, reduceIte, Nat.reduceEqDiff, reduceCtorEq, Nat.reduceAdd, Nat.reduceMul, Int.reduceToNat, Int.reduceLE, Int.reduceLT, Int.reduceEq, Int.reduceNe, Nat.reduceLeDiff, Int.reducePow, Nat.reducePow, Nat.reduceLT, Nat.reduceSub, Nat.reduceMod, Nat.reduceDiv, slot_neg, slot_pos]
            · simp (config := { dsimp := false, maxSteps := 10000000 }) (disch := omega) only [go_sem, reduceIte, Nat.reduceEqDiff, reduceCtorEq, Nat.reduceAdd, Nat.reduceMul, Int.reduceToNat, Int.reduceLE, Int.reduceLT, Int.reduceEq, Int.reduceNe, Nat.reduceLeDiff, Int.reducePow, Nat.reducePow, Nat.reduceLT, Nat.reduceSub, Nat.reduceMod, Nat.reduceDiv, slot_neg, slot_pos]
            · simp (config := { dsimp := false, maxSteps := 10000000 }) (disch := omega) only [go_sem, reduceIte, Nat.reduceEqDiff, reduceCtorEq, Nat.reduceAdd, Nat.reduceMul, Int.reduceToNat, Int.reduceLE, Int.reduceLT, Int.reduceEq, Int.reduceNe, Nat.reduceLeDiff, Int.reducePow, Nat.reducePow, Nat.reduceLT, Nat.reduceSub, Nat.reduceMod, Nat.reduceDiv, slot_neg, slot_pos]
            · omega
            · omega
            · omega
            · simp (config := { dsimp := false, maxSteps := 10000000 }) (disch := omega) only [go_sem, reduceIte, Nat.reduceEqDiff, reduceCtorEq, Nat.reduceAdd, Nat.reduceMul, Int.reduceToNat, Int.reduceLE, Int.reduceLT, Int.reduceEq, Int.reduceNe, Nat.reduceLeDiff, Int.reducePow, Nat.reducePow, Nat.reduceLT, Nat.reduceSub, Nat.reduceMod, Nat.reduceDiv, slot_neg, slot_pos]
              simp [allB, bc]
            · simp (config := { dsimp := false, maxSteps := 10000000 }) (disch := omega) only [go_sem, reduceIte, Nat.reduceEqDiff, reduceCtorEq, Nat.reduceAdd, Nat.reduceMul, Int.reduceToNat, Int.reduceLE, Int.reduceLT, Int.reduceEq, Int.reduceNe, Nat.reduceLeDiff, Int.reducePow, Nat.reducePow, Nat.reduceLT, Nat.reduceSub, Nat.reduceMod, Nat.reduceDiv, slot_neg, slot_pos]
              simp [allC, Pk.cs, hdv]
            · simp (config := { dsimp := false, maxSteps := 10000000 }) (disch := omega) only [go_sem, reduceIte, Nat.reduceEqDiff, reduceCtorEq, Nat.reduceAdd, Nat.reduceMul, Int.reduceToNat, Int.reduceLE, Int.reduceLT, Int.reduceEq, Int.reduceNe, Nat.reduceLeDiff, Int.reducePow, Nat.reducePow, Nat.reduceLT, Nat.reduceSub, Nat.reduceMod, Nat.reduceDiv, slot_neg, slot_pos]
              simp [atsF, allB, ic]
          · have tB : List.take (allB l).length (bc (allB l)) = bc (allB l) := List.take_of_length_le (by rw [bc_len]; exact Nat.le_refl _)
            have tC : List.take (l.length * 10) (allC l) = allC l := List.take_of_length_le (by rw [allC_len]; exact Nat.le_refl _)
            have tA : List.take l.length (ic (atsF 0 l)) = ic (atsF 0 l) := List.take_of_length_le (by simp [ic, atsF_len])
            have tD : List.take ((allB l).length + (bt.length + 1)) (bc (allB l) ++ Value.int IntKind.u8 (b'.toNat : Int) :: bc bt) = bc (allB l) ++ Value.int IntKind.u8 (b'.toNat : Int) :: bc bt := List.take_of_length_le (by simp [bc_len])
            have g5 := (kA.2 _ nb).trans gb
            have g6 := (kA.2 _ nh).trans gh
            have g7 := (kA.2 _ na).trans ga
            have w1' : IntKind.i64.wrap (((allB l).length : Int) + ((bt.length + 1 : Nat) : Int)) = (allB l).length + bt.length + 1 := by rw [i64wrap] <;> omega
            have w2' : IntKind.i64.wrap (((allB l).length : Int) + bt.length + 1 - sz) = (allB l).length + bt.length + 1 - sz := by rw [i64wrap] <;> omega
            simp (config := { dsimp := false, maxSteps := 10000000 }) (disch := omega) only [go_sem, reduceIte, Nat.reduceEqDiff, reduceCtorEq, Nat.reduceAdd, Nat.reduceMul, Int.reduceToNat, Int.reduceLE, Int.reduceLT, Int.reduceEq, Int.reduceNe, Nat.reduceLeDiff, Int.reducePow, Nat.reducePow, Nat.reduceLT, Nat.reduceSub, Nat.reduceMod, Nat.reduceDiv, slot_neg, slot_pos, T.ag_24, T.ag_3, T.ag_31, T.ag_5, T.ag_9, T.eb_22, T.eb_28, T.eb_48, T.es_22, T.es_28, T.es_48, T.ez_22, T.ez_28, T.ez_48, T.fo_24_0, T.fo_24_4, T.fo_24_5, T.fo_24_6, T.fo_24_7, T.gf_13, T.gf_14, T.gf_15, T.gf_19, T.gf_20, T.gf_21, T.ib_25, T.ib_3, T.ib_35, T.ib_5, T.ii_22, T.ii_28, T.ii_3, T.ii_35, T.ii_48, T.ip_25, T.ip_3, T.ip_35, T.ip_5, T.s8_22, T.s8_28, T.s8_3, T.s8_35, T.s8_48, T.sl_22, T.sl_28, T.sl_3, T.sl_35, T.sl_48, T.st_22, T.st_28, T.st_3, T.st_35, T.st_48, T.un_22, T.un_28, T.un_3, T.un_35, T.un_48, T.zo_24, T.zo_31, q0, q1, q5, q6, q7, q8, g9, hdv, hgj, bc_cons, List.set_cons_zero, o1, k1, repl5, List.drop_succ_cons, List.drop_zero, bc_len, bc_one, List.length_cons, List.length_nil, tk, hb1, w1', w2', w3, g5, g6, g7, tB, tC, tA, tD]
            have w8 : l.length ≤ 8 := by omega
            refine ⟨by omega, by omega, by omega, ⟨by simp [ic, atsF_len], by omega, by omega⟩, ⟨by omega, by omega⟩, ⟨by simp [bc_len], by omega, by omega⟩, ⟨by rw [allC_len]; exact Nat.le_refl _, by omega, by omega⟩, ⟨i + 1, l ++ [⟨b' :: bt ++ [1, 2, 3, 4, 5], K, v, d, s, L, lst, (bt.length : Int) + 1 - sz⟩], by omega, by omega, by simp; omega, rfl, ?_⟩, by omega⟩
            refine rows_step ⟨b' :: bt ++ [1, 2, 3, 4, 5], K, v, d, s, L, lst, (bt.length : Int) + 1 - sz⟩ hok hlen hok1 hs hlt ?_ ?_ ?_ ?_ ?_ ?_ ?_ ?_ (by omega) (by omega) (by omega) ?_ ?_ ?_
            · exact (((((((((((hkH.trans kA).put' (by omega)).alloc').app ma).app mb).alloc').app (by show H.next ≤ H3.next + 1 + 1; omega)).put' (by omega)).put' (by omega)).alloc').app mh)
            · rw [allB_app, List.length_append]; simp; omega
            · simp (config := { dsimp := false, maxSteps := 10000000 }) (disch := omega) only [go_sem, reduceIte, Nat.reduceEqDiff, reduceCtorEq, Nat.reduceAdd, Nat.reduceMul, Int.reduceToNat, Int.reduceLE, Int.reduceLT, Int.reduceEq, Int.reduceNe, Nat.reduceLeDiff, Int.reducePow, Nat.reducePow, Nat.reduceLT, Nat.reduceSub, Nat.reduceMod, Nat.reduceDiv, slot_neg, slot_pos]
            · simp (config := { dsimp := false, maxSteps := 10000000 }) (disch := omega) only [go_sem, reduceIte, Nat.reduceEqDiff, reduceCtorEq, Nat.reduceAdd, Nat.reduceMul, Int.reduceToNat, Int.reduceLE, Int.reduceLT, Int.reduceEq, Int.reduceNe, Nat.reduceLeDiff, Int.reducePow, Nat.reducePow, Nat.reduceLT, Nat.reduceSub, Nat.reduceMod, Nat.reduceDiv, slot_neg, slot_pos]
            · simp (config := { dsimp := false, maxSteps := 10000000 }) (disch := omega) only [go_sem, reduceIte, Nat.reduceEqDiff, reduceCtorEq, Nat.reduceAdd, Nat.reduceMul, Int.reduceToNat, Int.reduceLE, Int.reduceLT, Int.reduceEq, Int.reduceNe, Nat.reduceLeDiff, Int.reducePow, Nat.reducePow, Nat.reduceLT, Nat.reduceSub, Nat.reduceMod, Nat.reduceDiv, slot_neg, slot_pos]
            · omega
            · omega
            · omega
            · simp (config := { dsimp := false, maxSteps := 10000000 }) (disch := omega) only [go_sem, reduceIte, Nat.reduceEqDiff, reduceCtorEq, Nat.reduceAdd, Nat.reduceMul, Int.reduceToNat, Int.reduceLE, Int.reduceLT, Int.reduceEq, Int.reduceNe, Nat.reduceLeDiff, Int.reducePow, Nat.reducePow, Nat.reduceLT, Nat.reduceSub, Nat.reduceMod, Nat.reduceDiv, slot_neg, slot_pos]
              rw [allB_app, ← bc_app]; simp [bc]
            · simp (config := { dsimp := false, maxSteps := 10000000 }) (disch := omega) only [go_sem, reduceIte, Nat.reduceEqDiff, reduceCtorEq, Nat.reduceAdd, Nat.reduceMul, Int.reduceToNat, Int.reduceLE, Int.reduceLT, Int.reduceEq, Int.reduceNe, Nat.reduceLeDiff, Int.reducePow, Nat.reducePow, Nat.reduceLT, Nat.reduceSub, Nat.reduceMod, Nat.reduceDiv, slot_neg, slot_pos]
              rw [allC_app]; simp [Pk.cs, hdv]
            · simp (config := { dsimp := false, maxSteps := 10000000 }) (disch := omega) only [go_sem, reduceIte, Nat.reduceEqDiff, reduceCtorEq, Nat.reduceAdd, Nat.reduceMul, Int.reduceToNat, Int.reduceLE, Int.reduceLT, Int.reduceEq, Int.reduceNe, Nat.reduceLeDiff, Int.reducePow, Nat.reducePow, Nat.reduceLT, Nat.reduceSub, Nat.reduceMod, Nat.reduceDiv, slot_neg, slot_pos]
              rw [atsF_app]; simp [ic]; omega
        · rw [if_neg hr] at hres
          subst hres
          have w3 : IntKind.i64.wrap ((i : Int) + 1) = ((i + 1 : Nat) : Int) := by rw [i64wrap] <;> omega
          simp (config := { dsimp := false, maxSteps := 10000000 }) (disch := omega) only [go_sem, reduceIte, Nat.reduceEqDiff, reduceCtorEq, Nat.reduceAdd, Nat.reduceMul, Int.reduceToNat, Int.reduceLE, Int.reduceLT, Int.reduceEq, Int.reduceNe, Nat.reduceLeDiff, Int.reducePow, Nat.reducePow, Nat.reduceLT, Nat.reduceSub, Nat.reduceMod, Nat.reduceDiv, slot_neg, slot_pos, T.ag_24, T.ag_3, T.ag_31, T.ag_5, T.ag_9, T.eb_22, T.eb_28, T.eb_48, T.es_22, T.es_28, T.es_48, T.ez_22, T.ez_28, T.ez_48, T.fo_24_0, T.fo_24_4, T.fo_24_5, T.fo_24_6, T.fo_24_7, T.gf_13, T.gf_14, T.gf_15, T.gf_19, T.gf_20, T.gf_21, T.ib_25, T.ib_3, T.ib_35, T.ib_5, T.ii_22, T.ii_28, T.ii_3, T.ii_35, T.ii_48, T.ip_25, T.ip_3, T.ip_35, T.ip_5, T.s8_22, T.s8_28, T.s8_3, T.s8_35, T.s8_48, T.sl_22, T.sl_28, T.sl_3, T.sl_35, T.sl_48, T.st_22, T.st_28, T.st_3, T.st_35, T.st_48, T.un_22, T.un_28, T.un_3, T.un_35, T.un_48, T.zo_24, T.zo_31, q0, q1, q8, w3]
          exact ⟨⟨i + 1, l, by omega, by omega, by omega, rfl, hI.kept kA⟩, by omega⟩
      · have c2' : ((i : Int) < 8) = False := eq_false (by omega)
        simp (config := { dsimp := false, maxSteps := 10000000 }) (disch := omega) only [go_sem, reduceIte, Nat.reduceEqDiff, reduceCtorEq, Nat.reduceAdd, Nat.reduceMul, Int.reduceToNat, Int.reduceLE, Int.reduceLT, Int.reduceEq, Int.reduceNe, Nat.reduceLeDiff, Int.reducePow, Nat.reducePow, Nat.reduceLT, Nat.reduceSub, Nat.reduceMod, Nat.reduceDiv, slot_neg, slot_pos, T.ag_24, T.ag_3, T.ag_31, T.ag_5, T.ag_9, T.eb_22, T.eb_28, T.eb_48, T.es_22, T.es_28, T.es_48, T.ez_22, T.ez_28, T.ez_48, T.fo_24_0, T.fo_24_4, T.fo_24_5, T.fo_24_6, T.fo_24_7, T.gf_13, T.gf_14, T.gf_15, T.gf_19, T.gf_20, T.gf_21, T.ib_25, T.ib_3, T.ib_35, T.ib_5, T.ii_22, T.ii_28, T.ii_3, T.ii_35, T.ii_48, T.ip_25, T.ip_3, T.ip_35, T.ip_5, T.s8_22, T.s8_28, T.s8_3, T.s8_35, T.s8_48, T.sl_22, T.sl_28, T.sl_3, T.sl_35, T.sl_48, T.st_22, T.st_28, T.st_3, T.st_35, T.st_48, T.un_22, T.un_28, T.un_3, T.un_35, T.un_48, T.zo_24, T.zo_31, q0, q1, q8, c1', c2']
        exact ⟨l, by omega, hI⟩
    · have c1' : ((i : Int) < (l0.length : Int)) = False := eq_false (by omega)
      rcases hs0' with ⟨rfl, rfl⟩ | ⟨p, cells, rfl, hp, hpg, hcl, hrd⟩
      · have z1 : ((i : Int) < 0) = False := eq_false (by omega)
        simp (config := { dsimp := false, maxSteps := 10000000 }) (disch := omega) only [go_sem, reduceIte, Nat.reduceEqDiff, reduceCtorEq, Nat.reduceAdd, Nat.reduceMul, Int.reduceToNat, Int.reduceLE, Int.reduceLT, Int.reduceEq, Int.reduceNe, Nat.reduceLeDiff, Int.reducePow, Nat.reducePow, Nat.reduceLT, Nat.reduceSub, Nat.reduceMod, Nat.reduceDiv, slot_neg, slot_pos, T.ag_24, T.ag_3, T.ag_31, T.ag_5, T.ag_9, T.eb_22, T.eb_28, T.eb_48, T.es_22, T.es_28, T.es_48, T.ez_22, T.ez_28, T.ez_48, T.fo_24_0, T.fo_24_4, T.fo_24_5, T.fo_24_6, T.fo_24_7, T.gf_13, T.gf_14, T.gf_15, T.gf_19, T.gf_20, T.gf_21, T.ib_25, T.ib_3, T.ib_35, T.ib_5, T.ii_22, T.ii_28, T.ii_3, T.ii_35, T.ii_48, T.ip_25, T.ip_3, T.ip_35, T.ip_5, T.s8_22, T.s8_28, T.s8_3, T.s8_35, T.s8_48, T.sl_22, T.sl_28, T.sl_3, T.sl_35, T.sl_48, T.st_22, T.st_28, T.st_3, T.st_35, T.st_48, T.un_22, T.un_28, T.un_3, T.un_35, T.un_48, T.zo_24, T.zo_31, q0, q1, q8, z1]
        exact ⟨l, by omega, hI⟩
      · simp (config := { dsimp := false, maxSteps := 10000000 }) (disch := omega) only [go_sem, reduceIte, Nat.reduceEqDiff, reduceCtorEq, Nat.reduceAdd, Nat.reduceMul, Int.reduceToNat, Int.reduceLE, Int.reduceLT, Int.reduceEq, Int.reduceNe, Nat.reduceLeDiff, Int.reducePow, Nat.reducePow, Nat.reduceLT, Nat.reduceSub, Nat.reduceMod, Nat.reduceDiv, slot_neg, slot_pos, T.ag_24, T.ag_3, T.ag_31, T.ag_5, T.ag_9, T.eb_22, T.eb_28, T.eb_48, T.es_22, T.es_28, T.es_48, T.ez_22, T.ez_28, T.ez_48, T.fo_24_0, T.fo_24_4, T.fo_24_5, T.fo_24_6, T.fo_24_7, T.gf_13, T.gf_14, T.gf_15, T.gf_19, T.gf_20, T.gf_21, T.ib_25, T.ib_3, T.ib_35, T.ib_5, T.ii_22, T.ii_28, T.ii_3, T.ii_35, T.ii_48, T.ip_25, T.ip_3, T.ip_35, T.ip_5, T.s8_22, T.s8_28, T.s8_3, T.s8_35, T.s8_48, T.sl_22, T.sl_28, T.sl_3, T.sl_35, T.sl_48, T.st_22, T.st_28, T.st_3, T.st_35, T.st_48, T.un_22, T.un_28, T.un_3, T.un_35, T.un_48, T.zo_24, T.zo_31, q0, q1, q8, c1']
        exact ⟨l, by omega, hI⟩
  rintro r2 H2 ⟨l, hl8, hI⟩
  obtain ⟨h3, hok, hK, hlen⟩ := hI
  have h3' : ∃ A5 A6 A7 c5 c6 c7, r2 5 = .slice A5 (allB l).length c5 ∧ r2 6 = .slice A6 l.length c6 ∧ r2 7 = .slice A7 l.length c7 ∧ (l ≠ [] → ∃ jb jh ja, A5 = some ⟨jb, 0, none⟩ ∧ c5 = 1 ∧ A6 = some ⟨jh, 0, none⟩ ∧ c6 = 10 ∧ A7 = some ⟨ja, 0, none⟩ ∧ c7 = 1 ∧
      jb < H2.next ∧ jh < H2.next ∧ ja < H2.next ∧ jb ≠ jh ∧ jb ≠ ja ∧ jh ≠ ja ∧ H2.get jb = .live (.cells (bc (allB l)) .own) ∧ H2.get jh = .live (.cells (allC l) .own) ∧ H2.get ja = .live (.cells (ic (atsF 0 l)) .own)) := by
    rcases h3 with ⟨rfl, e5, e6, e7⟩ | ⟨jb, jh, ja, q5, q6, q7, nb, nh, na, mb, mh, ma, d1, d2, d3, gb, gh, ga⟩
    · exact ⟨none, none, none, 0, 0, 0, e5, e6, e7, fun x => absurd rfl x⟩
    · exact ⟨_, _, _, _, _, _, q5, q6, q7, fun _ => ⟨jb, jh, ja, rfl, rfl, rfl, rfl, rfl, rfl, nb, nh, na, d1, d2, d3, gb, gh, ga⟩⟩
  obtain ⟨A5, A6, A7, c5, c6, c7, e5, e6, e7, hne⟩ := h3'
  clear h3
  refine CodeH.of_vc [25] hm (by kernel_rfl) ?_
  simp (config := { dsimp := false, maxSteps := 10000000 }) (disch := omega) only [go_sem, reduceIte, Nat.reduceEqDiff, reduceCtorEq, Nat.reduceAdd, Nat.reduceMul, Int.reduceToNat, Int.reduceLE, Int.reduceLT, Int.reduceEq, Int.reduceNe, Nat.reduceLeDiff, Int.reducePow, Nat.reducePow, Nat.reduceLT, Nat.reduceSub, Nat.reduceMod, Nat.reduceDiv, slot_neg, slot_pos, T.ag_24, T.ag_3, T.ag_31, T.ag_5, T.ag_9, T.eb_22, T.eb_28, T.eb_48, T.es_22, T.es_28, T.es_48, T.ez_22, T.ez_28, T.ez_48, T.fo_24_0, T.fo_24_4, T.fo_24_5, T.fo_24_6, T.fo_24_7, T.gf_13, T.gf_14, T.gf_15, T.gf_19, T.gf_20, T.gf_21, T.ib_25, T.ib_3, T.ib_35, T.ib_5, T.ii_22, T.ii_28, T.ii_3, T.ii_35, T.ii_48, T.ip_25, T.ip_3, T.ip_35, T.ip_5, T.s8_22, T.s8_28, T.s8_3, T.s8_35, T.s8_48, T.sl_22, T.sl_28, T.sl_3, T.sl_35, T.sl_48, T.st_22, T.st_28, T.st_3, T.st_35, T.st_48, T.un_22, T.un_28, T.un_3, T.un_35, T.un_48, T.zo_24, T.zo_31, e5, e6, e7]
  refine loop_intro [25] hm (fun r' H' => ∃ (n : Nat), n ≤ l.length ∧ r' 5 = .slice A5 (allB l).length c5 ∧ r' 6 = .slice A6 l.length c6 ∧ r' 7 = .slice A7 l.length c7 ∧ r' 12 = .int .i64 (allB (l.take n)).length ∧ r' 13 = .int .i64 n ∧ Kept H2 H') (fun r _ => match r 13 with | .int _ x => (l.length - x).toNat | _ => 0) ?_ ?_
  · exact ⟨0, by omega, by simp (config := { dsimp := false, maxSteps := 10000000 }) (disch := omega) only [go_sem, reduceIte, Nat.reduceEqDiff, reduceCtorEq, Nat.reduceAdd, Nat.reduceMul, Int.reduceToNat, Int.reduceLE, Int.reduceLT, Int.reduceEq, Int.reduceNe, Nat.reduceLeDiff, Int.reducePow, Nat.reducePow, Nat.reduceLT, Nat.reduceSub, Nat.reduceMod, Nat.reduceDiv, slot_neg, slot_pos, e5], by simp (config := { dsimp := false, maxSteps := 10000000 }) (disch := omega) only [go_sem, reduceIte, Nat.reduceEqDiff, reduceCtorEq, Nat.reduceAdd, Nat.reduceMul, Int.reduceToNat, Int.reduceLE, Int.reduceLT, Int.reduceEq, Int.reduceNe, Nat.reduceLeDiff, Int.reducePow, Nat.reducePow, Nat.reduceLT, Nat.reduceSub, Nat.reduceMod, Nat.reduceDiv, slot_neg, slot_pos, e6], by simp (config := { dsimp := false, maxSteps := 10000000 }) (disch := omega) only [go_sem, reduceIte, Nat.reduceEqDiff, reduceCtorEq, Nat.reduceAdd, Nat.reduceMul, Int.reduceToNat, Int.reduceLE, Int.reduceLT, Int.reduceEq, Int.reduceNe, Nat.reduceLeDiff, Int.reducePow, Nat.reducePow, Nat.reduceLT, Nat.reduceSub, Nat.reduceMod, Nat.reduceDiv, slot_neg, slot_pos, e7], by simp (config := { dsimp := false, maxSteps := 10000000 }) (disch := omega) only [go_sem, reduceIte, Nat.reduceEqDiff, reduceCtorEq, Nat.reduceAdd, Nat.reduceMul, Int.reduceToNat, Int.reduceLE, Int.reduceLT, Int.reduceEq, Int.reduceNe, Nat.reduceLeDiff, Int.reducePow, Nat.reducePow, Nat.reduceLT, Nat.reduceSub, Nat.reduceMod, Nat.reduceDiv, slot_neg, slot_pos, List.take_zero]; rfl, by simp (config := { dsimp := false, maxSteps := 10000000 }) (disch := omega) only [go_sem, reduceIte, Nat.reduceEqDiff, reduceCtorEq, Nat.reduceAdd, Nat.reduceMul, Int.reduceToNat, Int.reduceLE, Int.reduceLT, Int.reduceEq, Int.reduceNe, Nat.reduceLeDiff, Int.reducePow, Nat.reducePow, Nat.reduceLT, Nat.reduceSub, Nat.reduceMod, Nat.reduceDiv, slot_neg, slot_pos], Kept.refl _⟩
  rintro r' H' ⟨n, hn, q5, q6, q7, q12, q13, hK2⟩
  have hkn := hK.1
  have hkn2 := hK2.1
  by_cases c1 : n < l.length
  · have c1' : ((n : Int) < (l.length : Int)) = True := eq_true (by omega)
    obtain ⟨jb, jh, ja, rfl, rfl, rfl, rfl, rfl, rfl, nb, nh, na, d1, d2, d3, gb, gh, ga⟩ := hne (by rintro rfl; simp at c1)
    obtain ⟨p, hp⟩ : ∃ p, l[n]? = some p := ⟨_, List.getElem?_eq_getElem c1⟩
    obtain ⟨⟨ok1, ok2, ok3, ok4, ok5, ok6⟩, hs, hlt⟩ := hok p (List.mem_of_getElem? hp)
    obtain ⟨t1, t2, t3⟩ := allB_take l n p hp
    have gb' := (hK2.2 _ nb).trans gb
    have gh' := (hK2.2 _ nh).trans gh
    have ga' := (hK2.2 _ na).trans ga
    generalize hk0 : (allB (l.take n)).length = k0 at q12 t1 t2
    generalize hk2 : (allB (l.take (n + 1))).length = k2 at t1 t2 t3
    have hrem : (((allB l).length : Int) - (k0 : Int)).toNat = ((allB l).drop k0).length := by rw [List.length_drop]; omega
    simp (config := { dsimp := false, maxSteps := 10000000 }) (disch := omega) only [go_sem, reduceIte, Nat.reduceEqDiff, reduceCtorEq, Nat.reduceAdd, Nat.reduceMul, Int.reduceToNat, Int.reduceLE, Int.reduceLT, Int.reduceEq, Int.reduceNe, Nat.reduceLeDiff, Int.reducePow, Nat.reducePow, Nat.reduceLT, Nat.reduceSub, Nat.reduceMod, Nat.reduceDiv, slot_neg, slot_pos, T.ag_24, T.ag_3, T.ag_31, T.ag_5, T.ag_9, T.eb_22, T.eb_28, T.eb_48, T.es_22, T.es_28, T.es_48, T.ez_22, T.ez_28, T.ez_48, T.fo_24_0, T.fo_24_4, T.fo_24_5, T.fo_24_6, T.fo_24_7, T.gf_13, T.gf_14, T.gf_15, T.gf_19, T.gf_20, T.gf_21, T.ib_25, T.ib_3, T.ib_35, T.ib_5, T.ii_22, T.ii_28, T.ii_3, T.ii_35, T.ii_48, T.ip_25, T.ip_3, T.ip_35, T.ip_5, T.s8_22, T.s8_28, T.s8_3, T.s8_35, T.s8_48, T.sl_22, T.sl_28, T.sl_3, T.sl_35, T.sl_48, T.st_22, T.st_28, T.st_3, T.st_35, T.st_48, T.un_22, T.un_28, T.un_3, T.un_35, T.un_48, T.zo_24, T.zo_31, q5, q6, q7, q12, q13, c1', gb', hrem]
    refine ⟨by omega, get_new H' ((allB l).drop k0) 8 _ (.inr ⟨jb, k0, _, _, rfl, gb', by rw [bc_drop, List.take_of_length_le (by rw [bc_len]; exact Nat.le_refl _)], by rw [bc_len, List.length_drop]; omega⟩) (by rw [List.length_drop]; omega) (fun a n m e => by cases e; show jb < H'.next; omega) _ fun lst8 H3 hs8 hk3 hfr => ?_⟩
    have hone : lst8.oneCell' = true := hs8.toX.one
    rw [← pget, t1, ok6] at hs8 ⊢
    simp only [hd9, List.cons_append, List.nil_append] at hs8 ⊢
    simp (config := { dsimp := false, maxSteps := 10000000 }) (disch := omega) only [go_sem, reduceIte, Nat.reduceEqDiff, reduceCtorEq, Nat.reduceAdd, Nat.reduceMul, Int.reduceToNat, Int.reduceLE, Int.reduceLT, Int.reduceEq, Int.reduceNe, Nat.reduceLeDiff, Int.reducePow, Nat.reducePow, Nat.reduceLT, Nat.reduceSub, Nat.reduceMod, Nat.reduceDiv, slot_neg, slot_pos, T.ag_24, T.ag_3, T.ag_31, T.ag_5, T.ag_9, T.eb_22, T.eb_28, T.eb_48, T.es_22, T.es_28, T.es_48, T.ez_22, T.ez_28, T.ez_48, T.fo_24_0, T.fo_24_4, T.fo_24_5, T.fo_24_6, T.fo_24_7, T.gf_13, T.gf_14, T.gf_15, T.gf_19, T.gf_20, T.gf_21, T.ib_25, T.ib_3, T.ib_35, T.ib_5, T.ii_22, T.ii_28, T.ii_3, T.ii_35, T.ii_48, T.ip_25, T.ip_3, T.ip_35, T.ip_5, T.s8_22, T.s8_28, T.s8_3, T.s8_35, T.s8_48, T.sl_22, T.sl_28, T.sl_3, T.sl_35, T.sl_48, T.st_22, T.st_28, T.st_3, T.st_35, T.st_48, T.un_22, T.un_28, T.un_3, T.un_35, T.un_48, T.zo_24, T.zo_31, q5, q6, q7, q12, q13, hone]
    have sl8 := SlN.made (b := .cells [.int .i64 0, .int .i64 0, .string (str []), .string (str []), .string (str []), .int .i64 0, .int .i64 0, .int .i64 0, .bool false, .slice none 0 0] .own) (x := .live (.cells [.int .i64 p.k, .int .i64 p.v, .string (str p.d), .string (str p.s), .string (str []), .int .i64 p.L, .int .i64 0, .int .i64 0, .bool false, lst8] .own)) hs8 hfr
    generalize hH4 : Heap.put _ _ _ = H4 at sl8 ⊢
    have k34 : Kept H3 H4 := by rw [← hH4]; exact (Kept.alloc _ _).put' (Nat.le_refl _)
    have g14 : H4.get H3.next = .live (.cells [.int .i64 p.k, .int .i64 p.v, .string (str p.d), .string (str p.s), .string (str []), .int .i64 p.L, .int .i64 0, .int .i64 0, .bool false, lst8] .own) := by rw [← hH4, get_put, if_pos rfl]
    have n14 : H3.next < H4.next := by rw [← hH4]; exact Nat.lt_succ_self _
    clear hH4
    have k4 : Kept H' H4 := hk3.trans k34
    have k4n := k4.1
    have hk3n := hk3.1
    have gb4 := (k4.2 jb (by omega)).trans gb'
    have gh4 := (k4.2 jh (by omega)).trans gh'
    have ga4 := (k4.2 ja (by omega)).trans ga'
    refine draw_plan [] (.take 0 (.take 1 (.take 2 (.take 3 (.take 5 (.take 6 (.take 7 (.take 8 (.alt 4 (.alt 9 (.take 10 (.take 11 (.take 12 (.take 13 (.take 14 (.take 15 (.take 16 (.take 17 (.take 18 (.take 19 (.take 20 (.take 21 (.take 22 (.take 23 (.take 24 (.take 25 (.take 26 (.take 27 (.take 28 (.take 29 (.take 30 (.take 31 (.take 32 .done))))))))))))))))))))))) .stop) .stop))))))))) hm (by kernel_rfl) (by kernel_rfl) ?_
    have hsX : SlX H4 p.lst [] := hs.kept ((hK.trans hK2).trans k4) hlt
    have hltX : ∀ a n m, p.lst = .slice (some a) n m → a.block < H4.next := fun a n m e => Nat.lt_of_lt_of_le (hlt a n m e) ((hK.trans hK2).trans k4).1
    have o1 := hs.one
    have kc1 := hs.cells
    have z1 : List.take 10 (List.drop (n * 10) (allC l)) = [.int .i64 p.k, .int .i64 p.v, .string (str p.d), .string (str p.s), .string (str []), .int .i64 p.L, .int .i64 0, .int .i64 0, .bool false, p.lst] := allC_at l n p hp
    have z2 : (allC l)[n * 10 + 5]? = some (.int .i64 p.L) := (allC_get hp 5 (by decide)).trans rfl
    have z3 : (ic (atsF 0 l))[n]? = some (.int .i64 ((k0 : Int) + p.pl)) := by
      rw [ic, List.getElem?_map, atsF_get l 0 n p hp, hk0, Nat.zero_add]; rfl
    have hle : n * 10 + 10 ≤ (allC l).length := by rw [allC_len]; omega
    have hli : n < (ic (atsF 0 l)).length := by rw [ic, List.length_map, atsF_len]; exact c1
    have w1 : IntKind.i64.wrap ((k0 : Int) + p.pl) = k0 + p.pl := by rw [i64wrap] <;> omega
    have w2 : IntKind.i64.wrap (p.pl + p.L) = p.pl + p.L := by rw [i64wrap] <;> omega
    have w3 : IntKind.i64.wrap ((k0 : Int) + (p.pl + p.L)) = k2 := by rw [i64wrap] <;> omega
    have w4 : IntKind.i64.wrap ((n : Int) + 1) = ((n + 1 : Nat) : Int) := by rw [i64wrap] <;> omega
    simp (config := { dsimp := false, maxSteps := 10000000 }) (disch := omega) only [go_sem, reduceIte, Nat.reduceEqDiff, reduceCtorEq, Nat.reduceAdd, Nat.reduceMul, Int.reduceToNat, Int.reduceLE, Int.reduceLT, Int.reduceEq, Int.reduceNe, Nat.reduceLeDiff, Int.reducePow, Nat.reducePow, Nat.reduceLT, Nat.reduceSub, Nat.reduceMod, Nat.reduceDiv, slot_neg, slot_pos, T.ag_24, T.ag_3, T.ag_31, T.ag_5, T.ag_9, T.eb_22, T.eb_28, T.eb_48, T.es_22, T.es_28, T.es_48, T.ez_22, T.ez_28, T.ez_48, T.fo_24_0, T.fo_24_4, T.fo_24_5, T.fo_24_6, T.fo_24_7, T.gf_13, T.gf_14, T.gf_15, T.gf_19, T.gf_20, T.gf_21, T.ib_25, T.ib_3, T.ib_35, T.ib_5, T.ii_22, T.ii_28, T.ii_3, T.ii_35, T.ii_48, T.ip_25, T.ip_3, T.ip_35, T.ip_5, T.s8_22, T.s8_28, T.s8_3, T.s8_35, T.s8_48, T.sl_22, T.sl_28, T.sl_3, T.sl_35, T.sl_48, T.st_22, T.st_28, T.st_3, T.st_35, T.st_48, T.un_22, T.un_28, T.un_3, T.un_35, T.un_48, T.zo_24, T.zo_31, q5, q6, q7, q12, q13, hone, g14, gh4, ga4]
    refine ⟨by omega, by omega, by omega, hle, (from_ph (H4.mask []) p.k p.v p.d p.s [] p.L 0 0 false lst8 sl8.toX.one sl8.toX.cells).mono fun w h2 ⟨hw, hk2'⟩ => ?_⟩
    subst hw
    have mk : ∀ {v : Value}, SlX H4 v [] → (∀ a n m, v = .slice (some a) n m → a.block < H4.next) → SlX h2 v [] ∧ ∀ a n m, v = .slice (some a) n m → a.block < h2.next := fun {v} hs hlt => by
      rcases hs with ⟨x, y⟩ | ⟨p, o, vs, q, a1, a2, a3, a4⟩
      · exact ⟨.inl ⟨x, y⟩, fun a n m e => by rw [x] at e; cases e⟩
      · have := hlt _ _ _ a1
        refine ⟨.inr ⟨p, o, vs, q.lk, a1, ?_, a3, a4⟩, fun a n m e => Nat.lt_of_lt_of_le (hlt _ _ _ e) hk2'.1⟩
        rw [hk2'.2 p this, get_mask, if_neg (by simp), a2, lock_live', lock_cells]
    have hlt8 : ∀ a n m, lst8 = .slice (some a) n m → a.block < H4.next := fun a n m e => by
      rcases sl8 with ⟨x, _⟩ | ⟨i, q, a1, a2, a3, a4, a5⟩
      · rw [x] at e; cases e
      · rw [a4] at e; cases e; exact a3
    simp (config := { dsimp := false, maxSteps := 10000000 }) (disch := omega) only [go_sem, reduceIte, Nat.reduceEqDiff, reduceCtorEq, Nat.reduceAdd, Nat.reduceMul, Int.reduceToNat, Int.reduceLE, Int.reduceLT, Int.reduceEq, Int.reduceNe, Nat.reduceLeDiff, Int.reducePow, Nat.reducePow, Nat.reduceLT, Nat.reduceSub, Nat.reduceMod, Nat.reduceDiv, slot_neg, slot_pos, T.ag_24, T.ag_3, T.ag_31, T.ag_5, T.ag_9, T.eb_22, T.eb_28, T.eb_48, T.es_22, T.es_28, T.es_48, T.ez_22, T.ez_28, T.ez_48, T.fo_24_0, T.fo_24_4, T.fo_24_5, T.fo_24_6, T.fo_24_7, T.gf_13, T.gf_14, T.gf_15, T.gf_19, T.gf_20, T.gf_21, T.ib_25, T.ib_3, T.ib_35, T.ib_5, T.ii_22, T.ii_28, T.ii_3, T.ii_35, T.ii_48, T.ip_25, T.ip_3, T.ip_35, T.ip_5, T.s8_22, T.s8_28, T.s8_3, T.s8_35, T.s8_48, T.sl_22, T.sl_28, T.sl_3, T.sl_35, T.sl_48, T.st_22, T.st_28, T.st_3, T.st_35, T.st_48, T.un_22, T.un_28, T.un_3, T.un_35, T.un_48, T.zo_24, T.zo_31, q5, q6, q7, q12, q13, hone, g14, gh4, ga4, hdv, z1]
    have mk2 : ∀ {v : Value}, SlX h2 v [] → SlX (h2.mask []) v [] := fun {v} hs => by
      rcases hs with ⟨x, y⟩ | ⟨p, o, vs, q, a1, a2, a3, a4⟩
      · exact .inl ⟨x, y⟩
      · exact .inr ⟨p, o, vs, q.lk, a1, by rw [get_mask, if_neg (by simp), a2, lock_live', lock_cells], a3, a4⟩
    have ga2 : h2.get ja = .live (.cells (ic (atsF 0 l)) Own.own.lk) := by rw [hk2'.2 ja (by show ja < H4.next; omega), get_mask, if_neg (by simp), ga4, lock_live', lock_cells]
    have gh2 : h2.get jh = .live (.cells (allC l) Own.own.lk) := by rw [hk2'.2 jh (by show jh < H4.next; omega), get_mask, if_neg (by simp), gh4, lock_live', lock_cells]
    have h2n : H4.next ≤ h2.next := hk2'.1
    refine CallsH.keep [] (Same_ph (h2.mask []) p.k p.v p.d p.s [] p.L 0 0 false lst8 p.lst [] (mk2 (mk sl8.toX hlt8).1) (mk2 (mk hsX hltX).1) (by simp) (mk sl8.toX hlt8).2 (mk hsX hltX).2) fun w h3 hw hn3 hfr3 => ?_
    subst hw
    have ga3 : (h2.unmask [] h3).get ja = .live (.cells (ic (atsF 0 l)) Own.own.lk) := by rw [get_unmask, if_pos ⟨by omega, by simp⟩, ga2]
    have gh3 : (h2.unmask [] h3).get jh = .live (.cells (allC l) Own.own.lk) := by rw [get_unmask, if_pos ⟨by omega, by simp⟩, gh2]
    simp (config := { dsimp := false, maxSteps := 10000000 }) (disch := omega) only [go_sem, reduceIte, Nat.reduceEqDiff, reduceCtorEq, Nat.reduceAdd, Nat.reduceMul, Int.reduceToNat, Int.reduceLE, Int.reduceLT, Int.reduceEq, Int.reduceNe, Nat.reduceLeDiff, Int.reducePow, Nat.reducePow, Nat.reduceLT, Nat.reduceSub, Nat.reduceMod, Nat.reduceDiv, slot_neg, slot_pos, T.ag_24, T.ag_3, T.ag_31, T.ag_5, T.ag_9, T.eb_22, T.eb_28, T.eb_48, T.es_22, T.es_28, T.es_48, T.ez_22, T.ez_28, T.ez_48, T.fo_24_0, T.fo_24_4, T.fo_24_5, T.fo_24_6, T.fo_24_7, T.gf_13, T.gf_14, T.gf_15, T.gf_19, T.gf_20, T.gf_21, T.ib_25, T.ib_3, T.ib_35, T.ib_5, T.ii_22, T.ii_28, T.ii_3, T.ii_35, T.ii_48, T.ip_25, T.ip_3, T.ip_35, T.ip_5, T.s8_22, T.s8_28, T.s8_3, T.s8_35, T.s8_48, T.sl_22, T.sl_28, T.sl_3, T.sl_35, T.sl_48, T.st_22, T.st_28, T.st_3, T.st_35, T.st_48, T.un_22, T.un_28, T.un_3, T.un_35, T.un_48, T.zo_24, T.zo_31, q5, q6, q7, q12, q13, hone, g14, gh4, ga4, ga3, gh3, z1, z2, z3, w1, w2, w3, w4]
    refine ⟨by omega, by omega, by omega, by omega, ⟨n + 1, by omega, by rw [hk2], rfl, (hK2.trans k4).trans ⟨Nat.le_trans h2n hn3, fun id hid => ?_⟩⟩, by omega⟩
    rw [get_unmask, if_pos ⟨hid, by simp⟩]
  · have c1' : ((n : Int) < (l.length : Int)) = False := eq_false (by omega)
    obtain rfl : n = l.length := by omega
    rw [List.take_length] at q12
    simp (config := { dsimp := false, maxSteps := 10000000 }) (disch := omega) only [go_sem, reduceIte, Nat.reduceEqDiff, reduceCtorEq, Nat.reduceAdd, Nat.reduceMul, Int.reduceToNat, Int.reduceLE, Int.reduceLT, Int.reduceEq, Int.reduceNe, Nat.reduceLeDiff, Int.reducePow, Nat.reducePow, Nat.reduceLT, Nat.reduceSub, Nat.reduceMod, Nat.reduceDiv, slot_neg, slot_pos, T.ag_24, T.ag_3, T.ag_31, T.ag_5, T.ag_9, T.eb_22, T.eb_28, T.eb_48, T.es_22, T.es_28, T.es_48, T.ez_22, T.ez_28, T.ez_48, T.fo_24_0, T.fo_24_4, T.fo_24_5, T.fo_24_6, T.fo_24_7, T.gf_13, T.gf_14, T.gf_15, T.gf_19, T.gf_20, T.gf_21, T.ib_25, T.ib_3, T.ib_35, T.ib_5, T.ii_22, T.ii_28, T.ii_3, T.ii_35, T.ii_48, T.ip_25, T.ip_3, T.ip_35, T.ip_5, T.s8_22, T.s8_28, T.s8_3, T.s8_35, T.s8_48, T.sl_22, T.sl_28, T.sl_3, T.sl_35, T.sl_48, T.st_22, T.st_28, T.st_3, T.st_35, T.st_48, T.un_22, T.un_28, T.un_3, T.un_35, T.un_48, T.zo_24, T.zo_31, q5, q6, q7, q12, q13, c1']
end Ph
