import Derived.Test.YthagjeomcgphiaaDoorN62
set_option maxRecDepth 100000
set_option linter.unusedSimpArgs false
set_option linter.unusedVariables false
namespace Ph
open Go Go.Proofs
attribute [local irreducible] Value.cells
attribute [local go_sem ↓] s_move s_assign s_pick s_nil s_bin s_un s_fa s_field s_ext s_ia s_ix s_slice s_conv s_build s_bs s_mf s_alloc s_box s_load s_store s_len s_min s_max s_app s_call q_call q_move q_assign q_pick q_nil q_bin q_un q_fa q_field q_ext q_ia q_ix q_slice q_conv q_build q_mf q_load q_len q_min q_max l_nil l_move l_assign l_pick l_nilc l_bin l_un l_fa l_field l_ext l_ia l_ix l_slice l_conv l_build l_mf l_load l_len l_min l_max l_call put_eq putN_eq o_nil o_plain o_gate v_nil v_plain v_gate vc_skip vc_region vc_seq vc_cond vc_block vc_loop vc_exit vc_ret blk_normal blk_ret blk_exit on_normal on_ret on_exit vc_drawn draw_q s_mk l_bs l_mk l_alloc l_box l_store l_app pl_done pl_take pl_alt pl_stop one_plain one_gate
attribute [local go_sem] onAgg_a onTuple_t onFunc_f c_int c_nil c_sl c_str sl_sl sl_nil sl_str ix_str ix_agg n_nil n_sl n_str app_eq k_nil k_sl len_sl len_str upd_some upd_none ev_tmp ev_const ev_func rd_some gdst_eq otmp_t otmp_c get_put get_alloc next_put next_alloc get_app next_app init_a resV1 resV2 onPtr_ptr onBool_b onInt_i onSlice_s onSome_s onCells_c lett_eq gate_tt gate_tf gate_ff gate_ft gate_dt gate_df also_eq bin un minmax io_none io_some bo_none bo_some partOf List.getElem?_cons_zero List.getElem?_cons_succ List.getElem?_toArray Option.map_some Option.map_none Option.bind_some ne_eq not_true_eq_false not_false_eq_true false_implies true_implies and_true true_and and_self Bool.false_eq_true Nat.zero_add Nat.add_zero List.size_toArray List.length_cons List.length_nil List.map_toArray List.map_cons List.map_nil Array.getD_eq_getD_getElem? Option.getD_some Bool.not_true Bool.not_false Bool.not_eq_true Option.isNone_some Option.isNone_none List.append_toArray List.append_nil List.nil_append List.cons_append decide_true decide_false in_nil in_cons Bool.and_false Bool.and_true Bool.or_false Bool.true_or Bool.false_or get_mask next_mask get_unmask next_unmask ac_move ac_assign ac_pick ac_nil ac_bin ac_un ac_fa ac_field ac_ext ac_ia ac_ix ac_slice ac_build ac_mf ac_call ac_load ac_conv accP_p accS_s accS_n accS_i accS_t fixed_ro fixed_lock fixed_own get_ro next_ro lock_live' lock_cells List.mem_cons List.not_mem_nil or_false false_or or_true true_or and_false false_and IntKind.bits Int.natCast_zero Int.natCast_one size_str data_str list_str mk_str ext_str app_str bytes_str w_byte w_byteu Int.toNat_natCast Int.toNat_zero Int.toNat_one Nat.sub_zero ge_iff_le gt_iff_lt Nat.le_refl Int.le_refl List.drop_zero Int.ofNat_eq_natCast Int.natCast_nonneg Int.sub_zero oc_int oc_bool oc_str oc_ptr oc_sl oc_map oc_func List.set_cons_zero List.set_cons_succ Nat.mul_one List.all_cons List.all_nil Bool.and_self res_nil res_tmp res_cell tup_one tup_two tup_nil fill_nil repl_zero cells_agg List.append_eq List.toList_toArray Nat.zero_mul Nat.one_mul repl_one repl_two onSome_build fill_cons onSome_lit splice_eq cells_int cells_bool cells_str cells_ptr cells_sl cells_map cells_func loadK_n loadK_s load_k storeK_n storeK_s store_k all_arr List.take_zero List.take_succ_cons List.drop_succ_cons List.take_nil List.drop_nil lk_own lk_ro lk_lock lk_lk fixed_lk gate_nt gate_nf gate3_b gate3_u undef Bool.true_and Bool.false_and nx_l nx_r nx_lt
section
variable {h : Heap} {s p o : Nat} {vs : List Value} {q : Own} {l : List UInt8} {e : Int}
theorem In.mask (hI : In h s p o vs q l e) : In (h.mask [s]) s p o vs q.lk l e := by
  have hne := hI.ne
  refine ⟨?_, ?_, hI.row, hI.len, hI.ne, hI.sn, hI.pn, hI.ll⟩
  · simp only [Heap.mask, List.mem_singleton, if_pos, hI.st]
  · simp only [Heap.mask, List.mem_singleton, if_neg hne, hI.dt, lock_live', lock_cells]
end
def Z31 : List Value := [.int .i64 0, .int .i64 0, .string (str []), .string (str []), .string (str []), .int .i64 0, .int .i64 0, .int .i64 0, .bool false, .slice none 0 0]
theorem In.unmask {h : Heap} {s p o : Nat} {vs : List Value} {q : Own} {l : List UInt8} {e : Int} {o' l' e' H} (hI : In h s p o vs q l e) (hI' : In H s p o' vs q.lk l' e') (hn : h.next ≤ H.next) : In (h.unmask [s] H) s p o' vs q l' e' := by
  have hne := hI.ne
  have hsn := hI.sn
  have hpn := hI.pn
  refine ⟨?_, ?_, hI'.row, hI'.len, hne, ?_, ?_, hI'.ll⟩
  · simp only [get_unmask, List.mem_singleton]; rw [if_neg (by simp)]; exact hI'.st
  · simp only [get_unmask, List.mem_singleton]; rw [if_pos ⟨hpn, hne⟩]; exact hI.dt
  · rw [next_unmask]; omega
  · rw [next_unmask]; omega
theorem In.put' {h : Heap} {s p o : Nat} {vs : List Value} {q : Own} {l : List UInt8} {e : Int} (hI : In h s p o vs q l e) {i : Nat} {x : Slot} (h1 : i ≠ s) (h2 : i ≠ p) : In (h.put i x) s p o vs q l e := by
  refine ⟨?_, ?_, hI.row, hI.len, hI.ne, hI.sn, hI.pn, hI.ll⟩
  · simp only [Heap.put]; rw [if_neg (fun x => h1 x.symm)]; exact hI.st
  · simp only [Heap.put]; rw [if_neg (fun x => h2 x.symm)]; exact hI.dt
/-- what getLong holds: the input s, the cell rc of what is told, the header hc -/
structure GL (H : Heap) (s p o : Nat) (vs : List Value) (q : Own) (l : List UInt8) (e : Int) (rc hc : Nat) (hd : List Value) : Prop where
  inp : In H s p o vs q l e
  res : H.get rc = .live (.cells Z31 .own)
  hdr : H.get hc = .live (.cells hd .own)
  rn : rc < H.next
  hn : hc < H.next
  d1 : rc ≠ s
  d2 : rc ≠ p
  d3 : hc ≠ s
  d4 : hc ≠ p
  d5 : hc ≠ rc
theorem GL.made {H : Heap} {s p o o' rc hc : Nat} {vs : List Value} {q : Own} {l l' : List UInt8} {e e' : Int} {X : Heap} (i0 : In H s p o vs q l e) (r0 : H.get rc = .live (.cells Z31 .own)) (rn : rc < H.next) (n3 : rc ≠ s) (n2 : rc ≠ p)
    (wX : In X s p o' vs q.lk l' e') (hX : H.next ≤ X.next) (hc1 : H.next ≤ hc) (hc2 : hc < X.next) (hd : List Value) : GL (H.unmask [s] (X.put hc (.live (.cells hd .own)))) s p o' vs q l' e' rc hc hd := by
  have hsn := i0.sn
  have hpn := i0.pn
  refine ⟨i0.unmask (wX.put' (by omega) (by omega)) (by simpa [Heap.put] using hX), ?_, ?_, ?_, ?_, n3, n2, by omega, by omega, by omega⟩
  · simp only [get_unmask, List.mem_singleton]; rw [if_pos ⟨rn, n3⟩]; exact r0
  · simp only [get_unmask, List.mem_singleton]; rw [if_neg (by omega)]; simp [Heap.put]
  · simp only [next_unmask, next_put]; omega
  · simp only [next_unmask, next_put]; omega
theorem kindv (b : UInt8) : IntKind.i64.wrap (IntKind.u8.wrap ((BitVec.ofInt 8 ((b.toNat : Int).fdiv (2 ^ min 4 8)) &&& BitVec.ofInt 8 3).toNat : Int)) = ((b.toNat / 16 % 4 : Nat) : Int) := by
  have := b.toNat_lt
  have e0 : (b.toNat : Int).fdiv (2 ^ min 4 8) = ((b.toNat / 16 : Nat) : Int) := by rw [Int.fdiv_eq_ediv_of_nonneg _ (by decide)]; rfl
  have e : (BitVec.ofInt 8 ((b.toNat / 16 : Nat) : Int) &&& BitVec.ofInt 8 3).toNat = b.toNat / 16 % 4 := by
    rw [BitVec.toNat_and]
    have e1 : (BitVec.ofInt 8 ((b.toNat / 16 : Nat) : Int)).toNat = b.toNat / 16 := by rw [BitVec.ofInt_natCast, BitVec.toNat_ofNat, Nat.mod_eq_of_lt (by omega)]
    have e2 : (BitVec.ofInt 8 3).toNat = 2 ^ 2 - 1 := by decide
    rw [e1, e2, Nat.and_two_pow_sub_one_eq_mod]
  rw [e0, e, u8wrap (by omega) (by omega), i64wrap] <;> omega
structure GetR where
  hd : List Value
  list : List Int
  at_ : Int
  en : Int
  e : Int
def hd9 (k v : Int) (d s t : List UInt8) (len : Int) : List Value := [.int .i64 k, .int .i64 v, .string (str d), .string (str s), .string (str t), .int .i64 len, .int .i64 0, .int .i64 0, .bool false]
def noneR (e : Int) : GetR := ⟨hd9 0 0 [] [] [] 0, [], 0, 0, e⟩
def fours : Nat → List UInt8 → List Int
  | 0, _ => []
  | n + 1, l => four (l.take 4) :: fours n (l.drop 4)
def kind (b : UInt8) : Nat := b.toNat / 16 % 4
def getL (b : UInt8) (t : List UInt8) : GetR :=
  let w := takeS t 0 4
  let n : Int := ((t.length + 1 : Nat) : Int)
  if b.toNat / 64 % 2 = 0 ∧ ¬ (w.e = 0 ∧ four w.bytes = 0) then noneR 2 else
  let d := name2S w.rest w.e
  let s := name2S d.rest d.e
  if w.e = 0 ∧ four w.bytes = 0 then
    let e := if s.e = 0 ∧ (s.rest.length = 0 ∨ s.rest.length % 4 ≠ 0 ∨ 64 < s.rest.length) then 2 else s.e
    if e ≠ 0 then noneR e else ⟨hd9 5 (four w.bytes) d.bytes s.bytes [] 0, fours (s.rest.length / 4) s.rest, n, n, 0⟩
  else if kind b = 3 then
    let x := textS s.rest s.e s.rest.length 512
    if x.e ≠ 0 then noneR x.e else ⟨hd9 3 (four w.bytes) d.bytes s.bytes x.bytes 0, [], n, n, 0⟩
  else
    let x := if kind b = 0 then textS (countS s.rest s.e 512).2.1 (countS s.rest s.e 512).2.2 (countS s.rest s.e 512).1 512 else ⟨[], s.rest, s.e⟩
    let c := countS x.rest x.e 16383
    let y := takeS c.2.1 c.2.2 c.1
    if y.e ≠ 0 then noneR y.e else ⟨hd9 (kind b) (four w.bytes) d.bytes s.bytes x.bytes c.1, [], n - c.2.1.length, n - c.2.1.length + c.1, 0⟩
/-- what a slice of ints denotes -/
def SlI (n0 : Nat) (h : Heap) (v : Value) (l : List Int) : Prop := (v = .slice none 0 0 ∧ l = []) ∨ ∃ i q, n0 ≤ i ∧ v = .slice (some ⟨i, 0, none⟩) l.length 1 ∧ h.get i = .live (.cells (l.map (Value.int .i64)) q)
def GRes (n0 : Nat) (g : GetR) (v : Value) (h' : Heap) : Prop := ∃ lst, v = .tuple #[.agg (g.hd ++ [lst]).toArray, .int .i64 g.at_, .int .i64 g.en, .int .i64 g.e] ∧ SlI n0 h' lst g.list
/-- the same, in a block that isn't rc's -/
def SlJ (n0 : Nat) (h : Heap) (rc : Nat) (v : Value) (l : List Int) : Prop := (v = .slice none 0 0 ∧ l = []) ∨ ∃ i q, n0 ≤ i ∧ i ≠ rc ∧ i < h.next ∧ v = .slice (some ⟨i, 0, none⟩) l.length 1 ∧ h.get i = .live (.cells (l.map (Value.int .i64)) q)
theorem SlJ.put {n0 : Nat} {h : Heap} {rc : Nat} {v : Value} {l : List Int} {x : Slot} (j : SlJ n0 h rc v l) : SlI n0 (h.put rc x) v l := by
  rcases j with j | ⟨i, q, h0, h1, _, h2, h3⟩
  · exact .inl j
  · exact .inr ⟨i, q, h0, h2, by simp only [Heap.put]; rw [if_neg h1]; exact h3⟩
theorem countS_lt (l : List UInt8) (e : Int) (m : Nat) : (countS l e m).1 < 9223372036854775807 := by
  have := vget_le l
  unfold countS
  split
  · split
    · split
      · simp
      · simp only []; omega
    · simp
  · simp
theorem takeS_ok {l : List UInt8} {e : Int} {n : Nat} (h : (takeS l e n).e = 0) : n ≤ l.length := by
  unfold takeS at h
  split at h
  · split at h
    · assumption
    · cases h
  · simp only [] at h; contradiction
theorem GL.err {H : Heap} {s p o rc hc : Nat} {vs : List Value} {q : Own} {l : List UInt8} {e : Int} {hd : List Value} (g : GL H s p o vs q l e rc hc hd) (e' : Int) : GL (H.put s (.live (.cells [.slice (some ⟨p, o, none⟩) l.length 1, .int .i64 e'] .own))) s p o vs q l e' rc hc hd :=
  ⟨g.inp.err e', by simp only [Heap.put]; rw [if_neg g.d1]; exact g.res, by simp only [Heap.put]; rw [if_neg g.d3]; exact g.hdr, g.rn, g.hn, g.d1, g.d2, g.d3, g.d4, g.d5⟩
section
variable {h : Heap} {s p o : Nat} {vs : List Value} {q : Own} {l : List UInt8} {e : Int} {wr : List Nat}
theorem In.masks (hI : In h s p o vs q l e) (h1 : s ∈ wr) (h2 : p ∉ wr) : In (h.mask wr) s p o vs q.lk l e :=
  ⟨by simp only [Heap.mask, if_pos h1, hI.st], by simp only [Heap.mask, if_neg h2, hI.dt, lock_live', lock_cells], hI.row, hI.len, hI.ne, hI.sn, hI.pn, hI.ll⟩
theorem In.unmasks {o' l' e' H} (hI : In h s p o vs q l e) (h1 : s ∈ wr) (h2 : p ∉ wr) (hI' : In H s p o' vs q.lk l' e') (hn : h.next ≤ H.next) : In (h.unmask wr H) s p o' vs q l' e' := by
  have hsn := hI.sn
  have hpn := hI.pn
  refine ⟨?_, ?_, hI'.row, hI'.len, hI.ne, ?_, ?_, hI'.ll⟩
  · rw [get_unmask, if_neg (fun x => x.2 h1)]; exact hI'.st
  · rw [get_unmask, if_pos ⟨hpn, h2⟩]; exact hI.dt
  · rw [next_unmask]; omega
  · rw [next_unmask]; omega
end
/-- a list under way: nil, or an own block, unlike the others -/
def SlK (n0 : Nat) (h : Heap) (rc s p hc : Nat) (v : Value) (l : List Int) : Prop := (v = .slice Option.none 0 0 ∧ l = []) ∨ ∃ i, n0 ≤ i ∧ i ≠ rc ∧ i ≠ s ∧ i ≠ p ∧ i ≠ hc ∧ i < h.next ∧ v = .slice (some ⟨i, 0, Option.none⟩) l.length 1 ∧ h.get i = .live (.cells (l.map (Value.int .i64)) .own)
theorem SlK.toJ {n0 : Nat} {h : Heap} {rc s p hc : Nat} {v : Value} {l : List Int} (j : SlK n0 h rc s p hc v l) : SlJ n0 h rc v l := by
  rcases j with j | ⟨i, h0, h1, _, _, _, h2, h3, h4⟩
  · exact .inl j
  · exact .inr ⟨i, .own, h0, h1, h2, h3, h4⟩
theorem fours_succ : ∀ (i : Nat) (l : List UInt8), fours (i + 1) l = fours i l ++ [four ((l.drop (4 * i)).take 4)]
  | 0, l => by simp [fours]
  | i + 1, l => by
    have := fours_succ i (l.drop 4)
    rw [fours, this, fours]
    simp only [List.cons_append, List.drop_drop]
    rw [show 4 + 4 * i = 4 * (i + 1) by omega]
theorem takeS_four {l : List UInt8} (h : 4 ≤ l.length) : takeS l 0 4 = ⟨l.take 4, l.drop 4, 0⟩ := by rw [takeS, if_pos rfl, if_pos h]
theorem fours_len : ∀ (i : Nat) (l : List UInt8), (fours i l).length = i
  | 0, _ => rfl
  | i + 1, l => by simp [fours, fours_len i]
theorem In.app {h : Heap} {s p o : Nat} {vs : List Value} {q : Own} {l : List UInt8} {e : Int} (hI : In h s p o vs q l e) {k : Nat} {cs : List Value} (h1 : k ≠ s) (h2 : k ≠ p) : In (appHeap h ⟨k, 0, Option.none⟩ cs) s p o vs q l e := by
  have hsn := hI.sn
  have hpn := hI.pn
  refine ⟨?_, ?_, hI.row, hI.len, hI.ne, ?_, ?_, hI.ll⟩
  · rw [get_app, if_neg (by omega), if_neg (fun x => h1 x.symm)]; exact hI.st
  · rw [get_app, if_neg (by omega), if_neg (fun x => h2 x.symm)]; exact hI.dt
  · rw [next_app]; omega
  · rw [next_app]; omega
theorem GL.unmasks {H X : Heap} {s p o rc hc : Nat} {vs : List Value} {q : Own} {l : List UInt8} {e : Int} {hd : List Value} (g : GL H s p o vs q l e rc hc hd) {wr : List Nat} (h1 : s ∈ wr) (h2 : p ∉ wr) (h3 : rc ∉ wr) (h4 : hc ∈ wr) {o' : Nat} {l' : List UInt8} {e' : Int} {hd' : List Value}
    (iX : In X s p o' vs q.lk l' e') (hX : H.next ≤ X.next) (hh : X.get hc = .live (.cells hd' .own)) : GL (H.unmask wr X) s p o' vs q l' e' rc hc hd' :=
  ⟨g.inp.unmasks h1 h2 iX hX, by rw [get_unmask, if_pos ⟨g.rn, h3⟩]; exact g.res, by rw [get_unmask, if_neg (fun x => x.2 h4)]; exact hh, by rw [next_unmask]; have := g.rn; omega, by rw [next_unmask]; have := g.hn; omega, g.d1, g.d2, g.d3, g.d4, g.d5⟩
theorem GRes.none {n0 : Nat} (e : Int) (h' : Heap) : GRes n0 (noneR e) (.tuple #[.agg Z31.toArray, .int .i64 0, .int .i64 0, .int .i64 e]) h' := ⟨.slice Option.none 0 0, rfl, .inl ⟨rfl, rfl⟩⟩
theorem GL.keep {H : Heap} {s p o o' rc hc : Nat} {vs : List Value} {q : Own} {l l' : List UInt8} {e e' : Int} {hd : List Value} {H1 : Heap} (g : GL H s p o vs q l e rc hc hd) (i1 : In H1 s p o' vs q l' e') (k : Keep H H1 s) : GL H1 s p o' vs q l' e' rc hc hd :=
  ⟨i1, (k.2 _ g.rn g.d1).trans g.res, (k.2 _ g.hn g.d3).trans g.hdr, Nat.lt_of_lt_of_le g.rn k.1, Nat.lt_of_lt_of_le g.hn k.1, g.d1, g.d2, g.d3, g.d4, g.d5⟩
theorem GL.put {H : Heap} {s p o rc hc : Nat} {vs : List Value} {q : Own} {l : List UInt8} {e : Int} {hd : List Value} (g : GL H s p o vs q l e rc hc hd) (hd' : List Value) : GL (H.put hc (.live (.cells hd' .own))) s p o vs q l e rc hc hd' :=
  ⟨g.inp.put' g.d3 g.d4, by simp only [Heap.put]; rw [if_neg (fun x => g.d5 x.symm)]; exact g.res, by simp [Heap.put], g.rn, g.hn, g.d1, g.d2, g.d3, g.d4, g.d5⟩
/-- the registers that getLong reads later -/
structure GR (r : Regs) (p o n rc s hc : Nat) : Prop where
  r0 : r 0 = .slice (some ⟨p, o, none⟩) n 1
  r2 : r 2 = .pointer (some ⟨rc, 0, none⟩)
  r3 : r 3 = .int .i64 0
  r4 : r 4 = .int .i64 0
  r5 : r 5 = .int .i64 0
  r6 : r 6 = .pointer (some ⟨s, 0, none⟩)
  r7 : r 7 = .pointer (some ⟨hc, 0, none⟩)
theorem bit6 (b : UInt8) : (IntKind.u8.wrap ((BitVec.ofInt IntKind.u8.bits (b.toNat : Int) &&& BitVec.ofInt IntKind.u8.bits 64).toNat : Int) = 0) = (b.toNat / 64 % 2 = 0) := by
  have key : ∀ x : UInt8, (IntKind.u8.wrap ((BitVec.ofInt 8 (x.toNat : Int) &&& BitVec.ofInt 8 64).toNat : Int) = 0) ↔ (x.toNat / 64 % 2 = 0) := by
    intro x
    have hx := x.toNat_lt
    have e1 : (BitVec.ofInt 8 (x.toNat : Int)).toNat = x.toNat := by simp
    have e2 : (BitVec.ofInt 8 64).toNat = 64 := by decide
    rw [BitVec.toNat_and, e1, e2]
    have e4 : ∀ n : Fin 256, n.val &&& 64 = 64 * (n.val / 64 % 2) := by decide +kernel
    have e3 := e4 ⟨x.toNat, hx⟩
    simp only [] at e3
    rw [e3, u8wrap] <;> omega
  exact propext (key b)
theorem getLong_ph (h : Heap) {p o : Nat} {vs : List Value} {q : Own} (b : UInt8) (t : List UInt8) (hdt : h.get p = .live (.cells vs q)) (hp : p < h.next) (hrow : (vs.drop o).take (b :: t).length = bc (b :: t)) (hlen : o + (b :: t).length ≤ vs.length) (hll : (b :: t).length < 9223372036854775807) :
    @CallsH Tryd.prog 45 #[.slice (some ⟨p, o, none⟩) (t.length + 1) 1] h ⟨GRes h.next (getL b t)⟩ := by
  have b0 := SlB.get hrow (n := 0) (by simp)
  simp only [Nat.add_zero, List.getD_cons_zero] at b0
  have e1 : (((t.length + 1 : Nat) : Int) - 1).toNat = t.length := by omega
  simp only [List.length_cons] at hrow hlen hll
  refine calls_of_codeR (rs := [.cell 2 31, .tmp 3, .tmp 4, .tmp 5]) Tryd.func45 rfl rfl (by simp) ?_
  refine CodeH.cut3 [] hm (fun r H => ∃ hc o', GR r p o (t.length + 1) h.next (h.next + 1) hc ∧ GL H (h.next + 1) p o' vs q (takeS t 0 4).rest (takeS t 0 4).e h.next hc (hd9 (kind b) (four (takeS t 0 4).bytes) [] [] [] 0 ++ [.slice none 0 0])) (by kernel_rfl) ?_ ?_
  case refine_2 =>
    rintro r H ⟨hc, o', hR, hG⟩
    generalize hw : takeS t 0 4 = w at hG
    have hst := hG.inp.st
    have hhd := hG.hdr
    have hdt := hG.inp.dt
    have hres := hG.res
    refine CodeH.cut2 [] hm (fun r' H' => H' = H ∧ GR r' p o (t.length + 1) h.next (h.next + 1) hc ∧ r' 8 = .bool (decide (w.e = 0) && decide (four w.bytes = 0)) ∧ ¬ (b.toNat / 64 % 2 = 0 ∧ ¬ (w.e = 0 ∧ four w.bytes = 0))) (by kernel_rfl) ?_ ?_
    · simp (config := { dsimp := false }) only [go_sem, reduceIte, Nat.reduceEqDiff, reduceCtorEq, Nat.reduceAdd, Nat.reduceMul, Int.reduceToNat, Int.reduceLE, Int.reduceLT, Int.reduceEq, Int.reduceNe, Nat.reduceLeDiff, Int.reducePow, Nat.reducePow, Nat.reduceLT, Nat.reduceSub, Nat.reduceMod, Nat.reduceDiv, T.ag_22, T.ag_25, T.ag_28, T.ag_3, T.ag_31, T.ag_5, T.ag_9, T.eb_22, T.es_28, T.ez_22, T.fo_108_0, T.fo_108_1, T.fo_31_0, T.fo_31_1, T.fo_31_2, T.fo_31_3, T.fo_31_4, T.fo_31_5, T.fo_31_9, T.gf_60, T.gf_61, T.gf_62, T.gf_63, T.gf_64, T.ib_25, T.ib_3, T.ib_5, T.ii_22, T.ii_28, T.ii_3, T.ii_5, T.ip_25, T.ip_3, T.ip_5, T.pl_108, T.pl_31, T.s8_22, T.s8_28, T.s8_3, T.s8_5, T.sl_22, T.sl_28, T.sl_3, T.sl_5, T.st_22, T.st_28, T.st_3, T.st_5, T.un_22, T.un_28, T.un_3, T.un_5, T.zo_108, T.zo_31, hR.r0, hR.r2, hR.r3, hR.r4, hR.r5, hR.r6, hR.r7, hst, hhd, hdt, hres, b0, hd9, Z31, bit6]
      have g : ∀ r', (∀ i, i < 8 → r' i = r i) → GR r' p o (t.length + 1) h.next (h.next + 1) hc := fun r' h => by
        have := fun i (hi : i < 8) => (h i hi)
        exact ⟨(h 0 (by omega)).trans hR.r0, (h 2 (by omega)).trans hR.r2, (h 3 (by omega)).trans hR.r3, (h 4 (by omega)).trans hR.r4, (h 5 (by omega)).trans hR.r5, (h 6 (by omega)).trans hR.r6, (h 7 (by omega)).trans hR.r7⟩
      have none2 : ∀ H', ¬ (w.e = 0 ∧ four w.bytes = 0) → b.toNat / 64 % 2 = 0 → GRes h.next (getL b t) (.tuple #[.agg Z31.toArray, .int .i64 0, .int .i64 0, .int .i64 2]) H' := fun H' h1 h2 => by
        have : getL b t = noneR 2 := by rw [getL, hw]; simp only []; rw [if_pos ⟨h2, h1⟩]
        rw [this]; exact GRes.none 2 H'
      refine ⟨fun he => ⟨by omega, fun hb => ⟨fun hv => none2 _ (fun x => hv x.2) hb, fun hv => ⟨g _ fun i hi => ?_, by simp [he], fun x => x.2 ⟨he, hv⟩⟩⟩, fun hb => ⟨g _ fun i hi => ?_, by simp [he], fun x => hb x.1⟩⟩, fun he => ⟨by omega, fun hb => none2 _ (fun x => he x.1) hb, fun hb => ⟨g _ fun i hi => ?_, by simp [he], fun x => hb x.1⟩⟩⟩
      all_goals
        match i, hi with
        | 0, _ | 1, _ | 2, _ | 3, _ | 4, _ | 5, _ | 6, _ | 7, _ => rfl
    · rintro r2 H2 ⟨rfl, hR2, h8, hnv⟩
      clear hst hhd hdt hres hR r
      generalize hd : name2S w.rest w.e = d
      generalize hs : name2S d.rest d.e = s
      refine CodeH.cut1 [] hm (fun r' H' => ∃ o'', GR r' p o (t.length + 1) h.next (h.next + 1) hc ∧ r' 8 = .bool (decide (w.e = 0) && decide (four w.bytes = 0)) ∧ GL H' (h.next + 1) p o'' vs q s.rest s.e h.next hc (hd9 (kind b) (four w.bytes) d.bytes s.bytes [] 0 ++ [.slice none 0 0])) (by kernel_rfl) ?_ ?_
      · simp (config := { dsimp := false }) only [go_sem, reduceIte, Nat.reduceEqDiff, reduceCtorEq, Nat.reduceAdd, Nat.reduceMul, Int.reduceToNat, Int.reduceLE, Int.reduceLT, Int.reduceEq, Int.reduceNe, Nat.reduceLeDiff, Int.reducePow, Nat.reducePow, Nat.reduceLT, Nat.reduceSub, Nat.reduceMod, Nat.reduceDiv, T.ag_22, T.ag_25, T.ag_28, T.ag_3, T.ag_31, T.ag_5, T.ag_9, T.eb_22, T.es_28, T.ez_22, T.fo_108_0, T.fo_108_1, T.fo_31_0, T.fo_31_1, T.fo_31_2, T.fo_31_3, T.fo_31_4, T.fo_31_5, T.fo_31_9, T.gf_60, T.gf_61, T.gf_62, T.gf_63, T.gf_64, T.ib_25, T.ib_3, T.ib_5, T.ii_22, T.ii_28, T.ii_3, T.ii_5, T.ip_25, T.ip_3, T.ip_5, T.pl_108, T.pl_31, T.s8_22, T.s8_28, T.s8_3, T.s8_5, T.sl_22, T.sl_28, T.sl_3, T.sl_5, T.st_22, T.st_28, T.st_3, T.st_5, T.un_22, T.un_28, T.un_3, T.un_5, T.zo_108, T.zo_31, hR2.r6]
        refine (name2_ph _ hG.inp).mono fun v H1 ⟨hv, o1, n1, k1⟩ => ?_
        subst hv
        have G1 := hG.keep n1 k1
        rw [hd] at n1 G1
        simp (config := { dsimp := false }) only [go_sem, reduceIte, Nat.reduceEqDiff, reduceCtorEq, Nat.reduceAdd, Nat.reduceMul, Int.reduceToNat, Int.reduceLE, Int.reduceLT, Int.reduceEq, Int.reduceNe, Nat.reduceLeDiff, Int.reducePow, Nat.reducePow, Nat.reduceLT, Nat.reduceSub, Nat.reduceMod, Nat.reduceDiv, T.ag_22, T.ag_25, T.ag_28, T.ag_3, T.ag_31, T.ag_5, T.ag_9, T.eb_22, T.es_28, T.ez_22, T.fo_108_0, T.fo_108_1, T.fo_31_0, T.fo_31_1, T.fo_31_2, T.fo_31_3, T.fo_31_4, T.fo_31_5, T.fo_31_9, T.gf_60, T.gf_61, T.gf_62, T.gf_63, T.gf_64, T.ib_25, T.ib_3, T.ib_5, T.ii_22, T.ii_28, T.ii_3, T.ii_5, T.ip_25, T.ip_3, T.ip_5, T.pl_108, T.pl_31, T.s8_22, T.s8_28, T.s8_3, T.s8_5, T.sl_22, T.sl_28, T.sl_3, T.sl_5, T.st_22, T.st_28, T.st_3, T.st_5, T.un_22, T.un_28, T.un_3, T.un_5, T.zo_108, T.zo_31, hR2.r6, hd]
        refine (name2_ph _ n1).mono fun v H3 ⟨hv, o2, n2, k2⟩ => ?_
        subst hv
        have G2 := G1.keep n2 k2
        rw [hs] at G2
        have hhd := G2.hdr
        simp (config := { dsimp := false }) only [go_sem, reduceIte, Nat.reduceEqDiff, reduceCtorEq, Nat.reduceAdd, Nat.reduceMul, Int.reduceToNat, Int.reduceLE, Int.reduceLT, Int.reduceEq, Int.reduceNe, Nat.reduceLeDiff, Int.reducePow, Nat.reducePow, Nat.reduceLT, Nat.reduceSub, Nat.reduceMod, Nat.reduceDiv, T.ag_22, T.ag_25, T.ag_28, T.ag_3, T.ag_31, T.ag_5, T.ag_9, T.eb_22, T.es_28, T.ez_22, T.fo_108_0, T.fo_108_1, T.fo_31_0, T.fo_31_1, T.fo_31_2, T.fo_31_3, T.fo_31_4, T.fo_31_5, T.fo_31_9, T.gf_60, T.gf_61, T.gf_62, T.gf_63, T.gf_64, T.ib_25, T.ib_3, T.ib_5, T.ii_22, T.ii_28, T.ii_3, T.ii_5, T.ip_25, T.ip_3, T.ip_5, T.pl_108, T.pl_31, T.s8_22, T.s8_28, T.s8_3, T.s8_5, T.sl_22, T.sl_28, T.sl_3, T.sl_5, T.st_22, T.st_28, T.st_3, T.st_5, T.un_22, T.un_28, T.un_3, T.un_5, T.zo_108, T.zo_31, hR2.r7, hhd, hs, hd9]
        have G3 := (G2.put (hd9 (kind b) (four w.bytes) d.bytes [] [] 0 ++ [.slice none 0 0])).put (hd9 (kind b) (four w.bytes) d.bytes s.bytes [] 0 ++ [.slice none 0 0])
        exact ⟨o2, ⟨hR2.r0, hR2.r2, hR2.r3, hR2.r4, hR2.r5, hR2.r6, hR2.r7⟩, h8, G3⟩
      · rintro r3 H3 ⟨o3, hR3, h8', G3⟩
        clear hG hR2 h8 r2 H2
        refine CodeH.cut1 [] hm (fun r' H' => ∃ o' l' e' k v d s t' len lst list, GR r' p o (t.length + 1) h.next (h.next + 1) hc ∧ GL H' (h.next + 1) p o' vs q l' e' h.next hc (hd9 k v d s t' len ++ [lst]) ∧ SlJ h.next H' h.next lst list ∧ getL b t = if e' = 0 then ⟨hd9 k v d s t' len, list, ((t.length + 1 : Nat) : Int), ((t.length + 1 : Nat) : Int), 0⟩ else noneR e') (by kernel_rfl) ?_ ?_
        · have hst := G3.inp.st
          have hhd := G3.hdr
          have hdt := G3.inp.dt
          have hres := G3.res
          have hg : ∀ r', (∀ i, i < 8 → r' i = r3 i) → GR r' p o (t.length + 1) h.next (h.next + 1) hc := fun r' h =>
            ⟨(h 0 (by omega)).trans hR3.r0, (h 2 (by omega)).trans hR3.r2, (h 3 (by omega)).trans hR3.r3, (h 4 (by omega)).trans hR3.r4, (h 5 (by omega)).trans hR3.r5, (h 6 (by omega)).trans hR3.r6, (h 7 (by omega)).trans hR3.r7⟩
          by_cases hv : w.e = 0 ∧ four w.bytes = 0
          · have hv' : (decide (w.e = 0) && decide (four w.bytes = 0)) = true := by simp [hv.1, hv.2]
            rw [hv'] at h8'
            have hn1 : (h.next + 1 = hc) = False := eq_false (fun x => G3.d3 x.symm)
            have hr4 : ((s.rest.length : Int).tmod 4 = 0) = (s.rest.length % 4 = 0) := by
              rw [Int.tmod_eq_emod_of_nonneg (by omega)]; exact propext (by omega)
            have G4 := G3.put (hd9 5 (four w.bytes) d.bytes s.bytes [] 0 ++ [.slice none 0 0])
            simp (config := { dsimp := false }) only [go_sem, reduceIte, Nat.reduceEqDiff, reduceCtorEq, Nat.reduceAdd, Nat.reduceMul, Int.reduceToNat, Int.reduceLE, Int.reduceLT, Int.reduceEq, Int.reduceNe, Nat.reduceLeDiff, Int.reducePow, Nat.reducePow, Nat.reduceLT, Nat.reduceSub, Nat.reduceMod, Nat.reduceDiv, T.ag_22, T.ag_25, T.ag_28, T.ag_3, T.ag_31, T.ag_5, T.ag_9, T.eb_22, T.es_28, T.ez_22, T.fo_108_0, T.fo_108_1, T.fo_31_0, T.fo_31_1, T.fo_31_2, T.fo_31_3, T.fo_31_4, T.fo_31_5, T.fo_31_9, T.gf_60, T.gf_61, T.gf_62, T.gf_63, T.gf_64, T.ib_25, T.ib_3, T.ib_5, T.ii_22, T.ii_28, T.ii_3, T.ii_5, T.ip_25, T.ip_3, T.ip_5, T.pl_108, T.pl_31, T.s8_22, T.s8_28, T.s8_3, T.s8_5, T.sl_22, T.sl_28, T.sl_3, T.sl_5, T.st_22, T.st_28, T.st_3, T.st_5, T.un_22, T.un_28, T.un_3, T.un_5, T.zo_108, T.zo_31, hR3.r6, hR3.r7, h8', hst, hhd, hd9, hn1, hr4]
            have G2 := G4.err 2
            refine ⟨fun he => ⟨fun h1 => ⟨fun h2 => ⟨fun h3 => ?_, fun h3 => ?_⟩, fun h2 => ?_⟩, fun h1 => ?_⟩, fun he => ?_⟩
            · refine loop_intro [] hm (fun r H => GR r p o (t.length + 1) h.next (h.next + 1) hc ∧ GL H (h.next + 1) p o3 vs q s.rest 2 h.next hc (hd9 5 (four w.bytes) d.bytes s.bytes [] 0 ++ [Value.slice Option.none 0 0])) (fun _ _ => (0 : Nat)) ⟨hg _ fun i hi => ?_, G2⟩ ?_
              · match i, hi with
                | 0, _ | 1, _ | 2, _ | 3, _ | 4, _ | 5, _ | 6, _ | 7, _ => rfl
              · rintro r5 H5 ⟨hR5, G5⟩
                have hst := G5.inp.st
                have hE : (2 = 0) = False := eq_false (by decide)
                simp (config := { dsimp := false }) only [go_sem, reduceIte, Nat.reduceEqDiff, reduceCtorEq, Nat.reduceAdd, Nat.reduceMul, Int.reduceToNat, Int.reduceLE, Int.reduceLT, Int.reduceEq, Int.reduceNe, Nat.reduceLeDiff, Int.reducePow, Nat.reducePow, Nat.reduceLT, Nat.reduceSub, Nat.reduceMod, Nat.reduceDiv, T.ag_22, T.ag_25, T.ag_28, T.ag_3, T.ag_31, T.ag_5, T.ag_9, T.eb_22, T.es_28, T.ez_22, T.fo_108_0, T.fo_108_1, T.fo_31_0, T.fo_31_1, T.fo_31_2, T.fo_31_3, T.fo_31_4, T.fo_31_5, T.fo_31_9, T.gf_60, T.gf_61, T.gf_62, T.gf_63, T.gf_64, T.ib_25, T.ib_3, T.ib_5, T.ii_22, T.ii_28, T.ii_3, T.ii_5, T.ip_25, T.ip_3, T.ip_5, T.pl_108, T.pl_31, T.s8_22, T.s8_28, T.s8_3, T.s8_5, T.sl_22, T.sl_28, T.sl_3, T.sl_5, T.st_22, T.st_28, T.st_3, T.st_5, T.un_22, T.un_28, T.un_3, T.un_5, T.zo_108, T.zo_31, hR5.r6, hst, hE]
                refine ⟨o3, _, 2, 5, four w.bytes, d.bytes, s.bytes, [], 0, .slice none 0 0, [], ⟨hR5.r0, hR5.r2, hR5.r3, hR5.r4, hR5.r5, hR5.r6, hR5.r7⟩, G5, .inl ⟨rfl, rfl⟩, ?_⟩
                have e0 : (if s.e = 0 ∧ (s.rest.length = 0 ∨ s.rest.length % 4 ≠ 0 ∨ 64 < s.rest.length) then (2 : Int) else s.e) = 2 := if_pos ⟨he, .inr (.inr (by omega))⟩
                rw [getL, hw]; simp only []; rw [if_neg hnv, hd, hs, if_pos hv, e0, if_pos (by decide), if_neg (by decide)]
            · have h2 : s.rest.length % 4 = 0 := Classical.not_not.1 h2
              rw [he] at G4
              refine loop_intro [] hm (fun r H => GR r p o (t.length + 1) h.next (h.next + 1) hc ∧ ∃ (o' i : Nat) (lst : Value), GL H (h.next + 1) p o' vs q (s.rest.drop (4 * i)) 0 h.next hc (hd9 5 (four w.bytes) d.bytes s.bytes [] 0 ++ [lst]) ∧ 4 * i ≤ s.rest.length ∧ SlK h.next H h.next (h.next + 1) p hc lst (fours i s.rest)) (fun _ H => match H.get (h.next + 1) with | .live (.cells (.slice _ n _ :: _) _) => n | _ => 0) ⟨hg _ fun i hi => ?_, o3, 0, .slice Option.none 0 0, G4, by omega, .inl ⟨rfl, rfl⟩⟩ ?_
              · match i, hi with
                | 0, _ | 1, _ | 2, _ | 3, _ | 4, _ | 5, _ | 6, _ | 7, _ => rfl
              · rintro r5 H5 ⟨hR5, o5, i, lst, G5, hi, hK⟩
                have hst := G5.inp.st
                simp (config := { dsimp := false }) only [go_sem, reduceIte, Nat.reduceEqDiff, reduceCtorEq, Nat.reduceAdd, Nat.reduceMul, Int.reduceToNat, Int.reduceLE, Int.reduceLT, Int.reduceEq, Int.reduceNe, Nat.reduceLeDiff, Int.reducePow, Nat.reducePow, Nat.reduceLT, Nat.reduceSub, Nat.reduceMod, Nat.reduceDiv, T.ag_22, T.ag_25, T.ag_28, T.ag_3, T.ag_31, T.ag_5, T.ag_9, T.eb_22, T.es_28, T.ez_22, T.fo_108_0, T.fo_108_1, T.fo_31_0, T.fo_31_1, T.fo_31_2, T.fo_31_3, T.fo_31_4, T.fo_31_5, T.fo_31_9, T.gf_60, T.gf_61, T.gf_62, T.gf_63, T.gf_64, T.ib_25, T.ib_3, T.ib_5, T.ii_22, T.ii_28, T.ii_3, T.ii_5, T.ip_25, T.ip_3, T.ip_5, T.pl_108, T.pl_31, T.s8_22, T.s8_28, T.s8_3, T.s8_5, T.sl_22, T.sl_28, T.sl_3, T.sl_5, T.st_22, T.st_28, T.st_3, T.st_5, T.un_22, T.un_28, T.un_3, T.un_5, T.zo_108, T.zo_31, hR5.r6, hst]
                refine ⟨fun hlt => ?_, fun hge => ?_⟩
                · rcases hK with ⟨rfl, hl0⟩ | ⟨k, k0, k1, k2, k3, k4, k5, rfl, k6'⟩
                  · refine draw_cut (fun r H => (GR r p o (t.length + 1) h.next (h.next + 1) hc ∧ ∃ (o' i : Nat) (lst : Value), GL H (h.next + 1) p o' vs q (s.rest.drop (4 * i)) 0 h.next hc (hd9 5 (four w.bytes) d.bytes s.bytes [] 0 ++ [lst]) ∧ 4 * i ≤ s.rest.length ∧ SlK h.next H h.next (h.next + 1) p hc lst (fours i s.rest)) ∧ (match H.get (h.next + 1) with | .live (.cells (.slice _ n _ :: _) _) => n | _ => 0) < (s.rest.drop (4 * i)).length) [h.next + 1, hc] (.take 0 (.take 2 (.alt 1 (.alt 3 (.alt 4 (.alt 5 (.take 6 (.alt 7 .done .stop)) .stop) .stop) .stop) (.alt 3 (.alt 1 (.alt 4 (.alt 5 (.take 6 (.alt 7 .done .stop)) .stop) .stop) (.alt 4 (.alt 1 (.alt 5 (.take 6 (.alt 7 .done .stop)) .stop) .stop) .stop)) .stop)))) hm (by kernel_rfl) (by kernel_rfl) ?_ ?_
                    · have hhd := G5.hdr
                      have d1 : (hc = h.next + 1) = False := eq_false G5.d3
                      simp (config := { dsimp := false }) only [go_sem, reduceIte, Nat.reduceEqDiff, reduceCtorEq, Nat.reduceAdd, Nat.reduceMul, Int.reduceToNat, Int.reduceLE, Int.reduceLT, Int.reduceEq, Int.reduceNe, Nat.reduceLeDiff, Int.reducePow, Nat.reducePow, Nat.reduceLT, Nat.reduceSub, Nat.reduceMod, Nat.reduceDiv, T.ag_22, T.ag_25, T.ag_28, T.ag_3, T.ag_31, T.ag_5, T.ag_9, T.eb_22, T.es_28, T.ez_22, T.fo_108_0, T.fo_108_1, T.fo_31_0, T.fo_31_1, T.fo_31_2, T.fo_31_3, T.fo_31_4, T.fo_31_5, T.fo_31_9, T.gf_60, T.gf_61, T.gf_62, T.gf_63, T.gf_64, T.ib_25, T.ib_3, T.ib_5, T.ii_22, T.ii_28, T.ii_3, T.ii_5, T.ip_25, T.ip_3, T.ip_5, T.pl_108, T.pl_31, T.s8_22, T.s8_28, T.s8_3, T.s8_5, T.sl_22, T.sl_28, T.sl_3, T.sl_5, T.st_22, T.st_28, T.st_3, T.st_5, T.un_22, T.un_28, T.un_3, T.un_5, T.zo_108, T.zo_31, hR5.r6, hR5.r7, hst, hhd, d1, hd9]
                      have hl4 : 4 ≤ (s.rest.drop (4 * i)).length := by simp at hlt ⊢; omega
                      have hT := takeS_four hl4
                      have i5 : In (H5.mask [h.next + 1, hc]) (h.next + 1) p o5 vs q.lk (s.rest.drop (4 * i)) 0 := G5.inp.masks (by simp) (by simp [G5.inp.ne, G5.d4.symm])
                      refine ⟨(word_ph _ i5).mono fun v H6 ⟨hv, o6, n6, k6⟩ => ?_, (word_ph _ i5).mono fun v H6 ⟨hv, o6, n6, k6⟩ => ?_⟩
                      all_goals
                        rw [hT] at n6
                        subst hv
                        have hh6 : H6.get hc = .live (.cells [.int .i64 5, .int .i64 (four w.bytes), .string (str d.bytes), .string (str s.bytes), .string (str []), .int .i64 0, .int .i64 0, .int .i64 0, .bool false, .slice Option.none 0 0] .own) := by
                          rw [k6.2 hc G5.hn G5.d3]; simp only [get_mask, List.mem_cons, List.not_mem_nil, or_false, or_true, true_or, if_true]; exact hhd
                        have hX : H5.next ≤ H6.next := k6.1
                        have hcn := G5.hn
                        have m1 : (hc = H6.next) = False := eq_false (by omega)
                        have m2 : (hc = H6.next + 1) = False := eq_false (by omega)
                        have hsn := G5.inp.sn
                        have m3 : (h.next = H6.next) = False := eq_false (by omega)
                        have m4 : (h.next + 1 = H6.next) = False := eq_false (by omega)
                        have hpn := G5.inp.pn
                        have hrn := G5.rn
                        have hdd : (s.rest.drop (4 * i)).drop 4 = s.rest.drop (4 * (i + 1)) := by rw [List.drop_drop]; congr 1
                        simp only [] at n6
                        rw [hdd] at n6
                        have hst6 := n6.st
                        obtain ⟨i0, hi0⟩ : ∃ i0, i0 = i := ⟨_, rfl⟩
                        have fin : ∀ (r' : Regs) (B1 : Blk), (∀ j, j < 8 → r' j = r5 j) → (GR r' p o (t.length + 1) h.next (h.next + 1) hc ∧ ∃ (o' i : Nat) (lst : Value), GL (H5.unmask [h.next + 1, hc] (((H6.alloc B1).alloc (.cells [.int .i64 (four (List.take 4 (List.drop (4 * i0) s.rest)))] .own)).put hc (.live (.cells [.int .i64 5, .int .i64 (four w.bytes), .string (str d.bytes), .string (str s.bytes), .string (str []), .int .i64 0, .int .i64 0, .int .i64 0, .bool false, .slice (some ⟨H6.next + 1, 0, Option.none⟩) 1 1] .own)))) (h.next + 1) p o' vs q (s.rest.drop (4 * i)) 0 h.next hc (hd9 5 (four w.bytes) d.bytes s.bytes [] 0 ++ [lst]) ∧ 4 * i ≤ s.rest.length ∧ SlK h.next (H5.unmask [h.next + 1, hc] (((H6.alloc B1).alloc (.cells [.int .i64 (four (List.take 4 (List.drop (4 * i0) s.rest)))] .own)).put hc (.live (.cells [.int .i64 5, .int .i64 (four w.bytes), .string (str d.bytes), .string (str s.bytes), .string (str []), .int .i64 0, .int .i64 0, .int .i64 0, .bool false, .slice (some ⟨H6.next + 1, 0, Option.none⟩) 1 1] .own)))) h.next (h.next + 1) p hc lst (fours i s.rest)) := by
                          rw [hi0]
                          intro r' B1 hr
                          refine ⟨⟨(hr 0 (by omega)).trans hR5.r0, (hr 2 (by omega)).trans hR5.r2, (hr 3 (by omega)).trans hR5.r3, (hr 4 (by omega)).trans hR5.r4, (hr 5 (by omega)).trans hR5.r5, (hr 6 (by omega)).trans hR5.r6, (hr 7 (by omega)).trans hR5.r7⟩, o6, i + 1, .slice (some ⟨H6.next + 1, 0, Option.none⟩) 1 1, G5.unmasks (by simp) (by simp [G5.inp.ne, G5.d4.symm]) (by simp [G5.d1, G5.d5.symm]) (by simp) (((n6.alloc _).alloc _).put' G5.d3 G5.d4) (by simp [Heap.alloc, Heap.put]; omega) (by simp [Heap.put, hd9]), by simp at hlt; omega, .inr ⟨H6.next + 1, by omega, by omega, by omega, by omega, by omega, by simp [Heap.unmask, Heap.alloc, Heap.put], ?_, ?_⟩⟩
                          · rw [fours_succ, hl0]; rfl
                          · rw [fours_succ, hl0, get_unmask, if_neg (by omega)]
                            simp only [get_put]; rw [if_neg (by omega)]
                            simp [Heap.alloc]
                        have rr : ∀ r' : Regs, r' 0 = r5 0 → r' 1 = r5 1 → r' 2 = r5 2 → r' 3 = r5 3 → r' 4 = r5 4 → r' 5 = r5 5 → r' 6 = r5 6 → r' 7 = r5 7 → ∀ j, j < 8 → r' j = r5 j := fun r' a0 a1 a2 a3 a4 a5 a6 a7 j hj => by
                          match j, hj with
                          | 0, _ => exact a0
                          | 1, _ => exact a1
                          | 2, _ => exact a2
                          | 3, _ => exact a3
                          | 4, _ => exact a4
                          | 5, _ => exact a5
                          | 6, _ => exact a6
                          | 7, _ => exact a7
                        have ms : (s.rest.drop (4 * (i + 1))).length < (s.rest.drop (4 * i)).length := by simp at hlt ⊢; omega
                        rw [hi0] at fin
                        simp (config := { dsimp := false }) only [go_sem, reduceIte, Nat.reduceEqDiff, reduceCtorEq, Nat.reduceAdd, Nat.reduceMul, Int.reduceToNat, Int.reduceLE, Int.reduceLT, Int.reduceEq, Int.reduceNe, Nat.reduceLeDiff, Int.reducePow, Nat.reducePow, Nat.reduceLT, Nat.reduceSub, Nat.reduceMod, Nat.reduceDiv, T.ag_22, T.ag_25, T.ag_28, T.ag_3, T.ag_31, T.ag_5, T.ag_9, T.eb_22, T.es_28, T.ez_22, T.fo_108_0, T.fo_108_1, T.fo_31_0, T.fo_31_1, T.fo_31_2, T.fo_31_3, T.fo_31_4, T.fo_31_5, T.fo_31_9, T.gf_60, T.gf_61, T.gf_62, T.gf_63, T.gf_64, T.ib_25, T.ib_3, T.ib_5, T.ii_22, T.ii_28, T.ii_3, T.ii_5, T.ip_25, T.ip_3, T.ip_5, T.pl_108, T.pl_31, T.s8_22, T.s8_28, T.s8_3, T.s8_5, T.sl_22, T.sl_28, T.sl_3, T.sl_5, T.st_22, T.st_28, T.st_3, T.st_5, T.un_22, T.un_28, T.un_3, T.un_5, T.zo_108, T.zo_31, hR5.r7, hh6, hT, m1, m2, hn1, m3, m4, hst6]
                        first
                          | exact ⟨fin _ _ (rr _ rfl rfl rfl rfl rfl rfl rfl rfl), ms⟩
                          | exact ⟨⟨fin _ _ (rr _ rfl rfl rfl rfl rfl rfl rfl rfl), ms⟩, ⟨fin _ _ (rr _ rfl rfl rfl rfl rfl rfl rfl rfl), ms⟩⟩
                    · rintro r6 H6 hq
                      refine ⟨hq.1, ?_⟩
                      simp only [hst]
                      exact hq.2
                  · refine draw_cut (fun r H => (GR r p o (t.length + 1) h.next (h.next + 1) hc ∧ ∃ (o' i : Nat) (lst : Value), GL H (h.next + 1) p o' vs q (s.rest.drop (4 * i)) 0 h.next hc (hd9 5 (four w.bytes) d.bytes s.bytes [] 0 ++ [lst]) ∧ 4 * i ≤ s.rest.length ∧ SlK h.next H h.next (h.next + 1) p hc lst (fours i s.rest)) ∧ (match H.get (h.next + 1) with | .live (.cells (.slice _ n _ :: _) _) => n | _ => 0) < (s.rest.drop (4 * i)).length) [h.next + 1, hc, k] (.take 0 (.take 2 (.alt 1 (.alt 3 (.alt 4 (.alt 5 (.take 6 (.alt 7 .done .stop)) .stop) .stop) .stop) (.alt 3 (.alt 1 (.alt 4 (.alt 5 (.take 6 (.alt 7 .done .stop)) .stop) .stop) (.alt 4 (.alt 1 (.alt 5 (.take 6 (.alt 7 .done .stop)) .stop) .stop) .stop)) .stop)))) hm (by kernel_rfl) (by kernel_rfl) ?_ ?_
                    · have hhd := G5.hdr
                      have d2 : (k = h.next + 1) = False := eq_false k2
                      have d3 : (k = hc) = False := eq_false k4
                      have d1 : (hc = h.next + 1) = False := eq_false G5.d3
                      simp (config := { dsimp := false }) only [go_sem, reduceIte, Nat.reduceEqDiff, reduceCtorEq, Nat.reduceAdd, Nat.reduceMul, Int.reduceToNat, Int.reduceLE, Int.reduceLT, Int.reduceEq, Int.reduceNe, Nat.reduceLeDiff, Int.reducePow, Nat.reducePow, Nat.reduceLT, Nat.reduceSub, Nat.reduceMod, Nat.reduceDiv, T.ag_22, T.ag_25, T.ag_28, T.ag_3, T.ag_31, T.ag_5, T.ag_9, T.eb_22, T.es_28, T.ez_22, T.fo_108_0, T.fo_108_1, T.fo_31_0, T.fo_31_1, T.fo_31_2, T.fo_31_3, T.fo_31_4, T.fo_31_5, T.fo_31_9, T.gf_60, T.gf_61, T.gf_62, T.gf_63, T.gf_64, T.ib_25, T.ib_3, T.ib_5, T.ii_22, T.ii_28, T.ii_3, T.ii_5, T.ip_25, T.ip_3, T.ip_5, T.pl_108, T.pl_31, T.s8_22, T.s8_28, T.s8_3, T.s8_5, T.sl_22, T.sl_28, T.sl_3, T.sl_5, T.st_22, T.st_28, T.st_3, T.st_5, T.un_22, T.un_28, T.un_3, T.un_5, T.zo_108, T.zo_31, hR5.r6, hR5.r7, hst, hhd, d1, d2, d3, k6', hd9]
                      have hl4 : 4 ≤ (s.rest.drop (4 * i)).length := by simp at hlt ⊢; omega
                      have hT := takeS_four hl4
                      have i5 : In (H5.mask [h.next + 1, hc, k]) (h.next + 1) p o5 vs q.lk (s.rest.drop (4 * i)) 0 := G5.inp.masks (by simp) (by simp [G5.inp.ne, G5.d4.symm, k3.symm])
                      refine ⟨(word_ph _ i5).mono fun v H6 ⟨hv, o6, n6, k6⟩ => ?_, (word_ph _ i5).mono fun v H6 ⟨hv, o6, n6, k6⟩ => ?_⟩
                      all_goals
                        rw [hT] at n6
                        subst hv
                        have hh6 : H6.get hc = .live (.cells [.int .i64 5, .int .i64 (four w.bytes), .string (str d.bytes), .string (str s.bytes), .string (str []), .int .i64 0, .int .i64 0, .int .i64 0, .bool false, .slice (some ⟨k, 0, Option.none⟩) (fours i s.rest).length 1] .own) := by
                          rw [k6.2 hc G5.hn G5.d3]; simp only [get_mask, List.mem_cons, List.not_mem_nil, or_false, or_true, true_or, if_true]; exact hhd
                        have hk6 : H6.get k = .live (.cells ((fours i s.rest).map (Value.int .i64)) .own) := by
                          rw [k6.2 k k5 k2]; simp only [get_mask, List.mem_cons, List.not_mem_nil, or_false, or_true, if_true]; exact k6'
                        have hX : H5.next ≤ H6.next := k6.1
                        have hcn := G5.hn
                        have m1 : (hc = H6.next) = False := eq_false (by omega)
                        have m2 : (hc = H6.next + 1) = False := eq_false (by omega)
                        have hsn := G5.inp.sn
                        have m3 : (h.next = H6.next) = False := eq_false (by omega)
                        have m4 : (h.next + 1 = H6.next) = False := eq_false (by omega)
                        have hpn := G5.inp.pn
                        have hrn := G5.rn
                        have hdd : (s.rest.drop (4 * i)).drop 4 = s.rest.drop (4 * (i + 1)) := by rw [List.drop_drop]; congr 1
                        simp only [] at n6
                        rw [hdd] at n6
                        have hst6 := n6.st
                        have hsn0 := G5.inp.sn
                        have m3 : (h.next = H6.next) = False := eq_false (by omega)
                        have m4 : (h.next + 1 = H6.next) = False := eq_false (by omega)
                        have m5 : (k = H6.next) = False := eq_false (by omega)
                        have m6 : (hc = k) = False := eq_false k4.symm
                        have m7 : (h.next + 1 = k) = False := eq_false k2.symm
                        have m8 : (H6.next = k) = False := eq_false (by omega)
                        have hsn := G5.inp.sn
                        have hpn := G5.inp.pn
                        have hrn := G5.rn
                        have hfl := fours_len i s.rest
                        have hmt : List.take (fours i s.rest).length (List.map (Value.int .i64) (fours i s.rest)) = List.map (Value.int .i64) (fours i s.rest) := List.take_of_length_le (by simp)
                        obtain ⟨i0, hi0⟩ : ∃ i0, i0 = i := ⟨_, rfl⟩
                        have fin : ∀ (r' : Regs) (B1 : Blk), (∀ j, j < 8 → r' j = r5 j) → (GR r' p o (t.length + 1) h.next (h.next + 1) hc ∧ ∃ (o' i : Nat) (lst : Value), GL (H5.unmask [h.next + 1, hc, k] ((appHeap (H6.alloc B1) ⟨k, 0, Option.none⟩ ((fours i0 s.rest).map (Value.int .i64) ++ [.int .i64 (four (List.take 4 (List.drop (4 * i0) s.rest)))])).put hc (.live (.cells [.int .i64 5, .int .i64 (four w.bytes), .string (str d.bytes), .string (str s.bytes), .string (str []), .int .i64 0, .int .i64 0, .int .i64 0, .bool false, .slice (some ⟨H6.next + 1, 0, Option.none⟩) ((fours i0 s.rest).length + 1) 1] .own)))) (h.next + 1) p o' vs q (s.rest.drop (4 * i)) 0 h.next hc (hd9 5 (four w.bytes) d.bytes s.bytes [] 0 ++ [lst]) ∧ 4 * i ≤ s.rest.length ∧ SlK h.next (H5.unmask [h.next + 1, hc, k] ((appHeap (H6.alloc B1) ⟨k, 0, Option.none⟩ ((fours i0 s.rest).map (Value.int .i64) ++ [.int .i64 (four (List.take 4 (List.drop (4 * i0) s.rest)))])).put hc (.live (.cells [.int .i64 5, .int .i64 (four w.bytes), .string (str d.bytes), .string (str s.bytes), .string (str []), .int .i64 0, .int .i64 0, .int .i64 0, .bool false, .slice (some ⟨H6.next + 1, 0, Option.none⟩) ((fours i0 s.rest).length + 1) 1] .own)))) h.next (h.next + 1) p hc lst (fours i s.rest)) := by
                          rw [hi0]
                          intro r' B1 hr
                          refine ⟨⟨(hr 0 (by omega)).trans hR5.r0, (hr 2 (by omega)).trans hR5.r2, (hr 3 (by omega)).trans hR5.r3, (hr 4 (by omega)).trans hR5.r4, (hr 5 (by omega)).trans hR5.r5, (hr 6 (by omega)).trans hR5.r6, (hr 7 (by omega)).trans hR5.r7⟩, o6, i + 1, .slice (some ⟨H6.next + 1, 0, Option.none⟩) ((fours i s.rest).length + 1) 1, G5.unmasks (by simp) (by simp [G5.inp.ne, G5.d4.symm, k3.symm]) (by simp [G5.d1, G5.d5.symm, k1.symm]) (by simp) (((n6.alloc _).app k2 k3).put' G5.d3 G5.d4) (by simp [Heap.alloc, Heap.put, appHeap]; omega) (by simp [Heap.put, hd9]), by simp at hlt; omega, .inr ⟨H6.next + 1, by omega, by omega, by omega, by omega, by omega, by simp [Heap.unmask, Heap.alloc, Heap.put, appHeap], ?_, ?_⟩⟩
                          · rw [fours_succ]; simp
                          · rw [fours_succ, get_unmask, if_neg (by omega)]
                            simp only [get_put]; rw [if_neg (by omega)]
                            simp [Heap.alloc, appHeap]
                        rw [hi0] at fin
                        have rr : ∀ r' : Regs, r' 0 = r5 0 → r' 1 = r5 1 → r' 2 = r5 2 → r' 3 = r5 3 → r' 4 = r5 4 → r' 5 = r5 5 → r' 6 = r5 6 → r' 7 = r5 7 → ∀ j, j < 8 → r' j = r5 j := fun r' a0 a1 a2 a3 a4 a5 a6 a7 j hj => by
                          match j, hj with
                          | 0, _ => exact a0
                          | 1, _ => exact a1
                          | 2, _ => exact a2
                          | 3, _ => exact a3
                          | 4, _ => exact a4
                          | 5, _ => exact a5
                          | 6, _ => exact a6
                          | 7, _ => exact a7
                        have ms : (s.rest.drop (4 * (i + 1))).length < (s.rest.drop (4 * i)).length := by simp at hlt ⊢; omega
                        have rm : (fours i s.rest).length ≤ (List.map (Value.int IntKind.i64) (fours i s.rest)).length ∧ ((fours i s.rest).length + 1) * 8 ≤ 140737488355328 ∧ (fours i s.rest).length ≤ 9223372036854775806 := by
                          rw [List.length_map, hfl]; simp at hlt; omega
                        simp (config := { dsimp := false }) only [go_sem, reduceIte, Nat.reduceEqDiff, reduceCtorEq, Nat.reduceAdd, Nat.reduceMul, Int.reduceToNat, Int.reduceLE, Int.reduceLT, Int.reduceEq, Int.reduceNe, Nat.reduceLeDiff, Int.reducePow, Nat.reducePow, Nat.reduceLT, Nat.reduceSub, Nat.reduceMod, Nat.reduceDiv, T.ag_22, T.ag_25, T.ag_28, T.ag_3, T.ag_31, T.ag_5, T.ag_9, T.eb_22, T.es_28, T.ez_22, T.fo_108_0, T.fo_108_1, T.fo_31_0, T.fo_31_1, T.fo_31_2, T.fo_31_3, T.fo_31_4, T.fo_31_5, T.fo_31_9, T.gf_60, T.gf_61, T.gf_62, T.gf_63, T.gf_64, T.ib_25, T.ib_3, T.ib_5, T.ii_22, T.ii_28, T.ii_3, T.ii_5, T.ip_25, T.ip_3, T.ip_5, T.pl_108, T.pl_31, T.s8_22, T.s8_28, T.s8_3, T.s8_5, T.sl_22, T.sl_28, T.sl_3, T.sl_5, T.st_22, T.st_28, T.st_3, T.st_5, T.un_22, T.un_28, T.un_3, T.un_5, T.zo_108, T.zo_31, hR5.r7, hh6, hT, m1, m2, hn1, m3, m4, m5, m6, m7, m8, hst6, hk6, hmt]
                        first
                          | exact ⟨rm, fin _ _ (rr _ rfl rfl rfl rfl rfl rfl rfl rfl), ms⟩
                          | exact ⟨⟨rm, fin _ _ (rr _ rfl rfl rfl rfl rfl rfl rfl rfl), ms⟩, ⟨rm, fin _ _ (rr _ rfl rfl rfl rfl rfl rfl rfl rfl), ms⟩⟩
                    · rintro r6 H6 hq
                      refine ⟨hq.1, ?_⟩
                      simp only [hst]
                      exact hq.2
                · refine ⟨o5, _, 0, 5, four w.bytes, d.bytes, s.bytes, [], 0, lst, fours i s.rest, ⟨hR5.r0, hR5.r2, hR5.r3, hR5.r4, hR5.r5, hR5.r6, hR5.r7⟩, G5, hK.toJ, ?_⟩
                  have e0 : (if s.e = 0 ∧ (s.rest.length = 0 ∨ s.rest.length % 4 ≠ 0 ∨ 64 < s.rest.length) then (2 : Int) else s.e) = 0 := by
                    rw [if_neg (fun x => by omega)]; exact he
                  have hie : s.rest.length / 4 = i := by simp at hge; omega
                  rw [getL, hw]; simp only []; rw [if_neg hnv, hd, hs, if_pos hv, e0, if_neg (fun x => x rfl), hie, if_pos trivial]
            · refine loop_intro [] hm (fun r H => GR r p o (t.length + 1) h.next (h.next + 1) hc ∧ GL H (h.next + 1) p o3 vs q s.rest 2 h.next hc (hd9 5 (four w.bytes) d.bytes s.bytes [] 0 ++ [Value.slice Option.none 0 0])) (fun _ _ => (0 : Nat)) ⟨hg _ fun i hi => ?_, G2⟩ ?_
              · match i, hi with
                | 0, _ | 1, _ | 2, _ | 3, _ | 4, _ | 5, _ | 6, _ | 7, _ => rfl
              · rintro r5 H5 ⟨hR5, G5⟩
                have hst := G5.inp.st
                have hE : (2 = 0) = False := eq_false (by decide)
                simp (config := { dsimp := false }) only [go_sem, reduceIte, Nat.reduceEqDiff, reduceCtorEq, Nat.reduceAdd, Nat.reduceMul, Int.reduceToNat, Int.reduceLE, Int.reduceLT, Int.reduceEq, Int.reduceNe, Nat.reduceLeDiff, Int.reducePow, Nat.reducePow, Nat.reduceLT, Nat.reduceSub, Nat.reduceMod, Nat.reduceDiv, T.ag_22, T.ag_25, T.ag_28, T.ag_3, T.ag_31, T.ag_5, T.ag_9, T.eb_22, T.es_28, T.ez_22, T.fo_108_0, T.fo_108_1, T.fo_31_0, T.fo_31_1, T.fo_31_2, T.fo_31_3, T.fo_31_4, T.fo_31_5, T.fo_31_9, T.gf_60, T.gf_61, T.gf_62, T.gf_63, T.gf_64, T.ib_25, T.ib_3, T.ib_5, T.ii_22, T.ii_28, T.ii_3, T.ii_5, T.ip_25, T.ip_3, T.ip_5, T.pl_108, T.pl_31, T.s8_22, T.s8_28, T.s8_3, T.s8_5, T.sl_22, T.sl_28, T.sl_3, T.sl_5, T.st_22, T.st_28, T.st_3, T.st_5, T.un_22, T.un_28, T.un_3, T.un_5, T.zo_108, T.zo_31, hR5.r6, hst, hE]
                refine ⟨o3, _, 2, 5, four w.bytes, d.bytes, s.bytes, [], 0, .slice none 0 0, [], ⟨hR5.r0, hR5.r2, hR5.r3, hR5.r4, hR5.r5, hR5.r6, hR5.r7⟩, G5, .inl ⟨rfl, rfl⟩, ?_⟩
                have e0 : (if s.e = 0 ∧ (s.rest.length = 0 ∨ s.rest.length % 4 ≠ 0 ∨ 64 < s.rest.length) then (2 : Int) else s.e) = 2 := if_pos ⟨he, .inr (.inl h2)⟩
                rw [getL, hw]; simp only []; rw [if_neg hnv, hd, hs, if_pos hv, e0, if_pos (by decide), if_neg (by decide)]
            · refine loop_intro [] hm (fun r H => GR r p o (t.length + 1) h.next (h.next + 1) hc ∧ GL H (h.next + 1) p o3 vs q s.rest 2 h.next hc (hd9 5 (four w.bytes) d.bytes s.bytes [] 0 ++ [Value.slice Option.none 0 0])) (fun _ _ => (0 : Nat)) ⟨hg _ fun i hi => ?_, G2⟩ ?_
              · match i, hi with
                | 0, _ | 1, _ | 2, _ | 3, _ | 4, _ | 5, _ | 6, _ | 7, _ => rfl
              · rintro r5 H5 ⟨hR5, G5⟩
                have hst := G5.inp.st
                have hE : (2 = 0) = False := eq_false (by decide)
                simp (config := { dsimp := false }) only [go_sem, reduceIte, Nat.reduceEqDiff, reduceCtorEq, Nat.reduceAdd, Nat.reduceMul, Int.reduceToNat, Int.reduceLE, Int.reduceLT, Int.reduceEq, Int.reduceNe, Nat.reduceLeDiff, Int.reducePow, Nat.reducePow, Nat.reduceLT, Nat.reduceSub, Nat.reduceMod, Nat.reduceDiv, T.ag_22, T.ag_25, T.ag_28, T.ag_3, T.ag_31, T.ag_5, T.ag_9, T.eb_22, T.es_28, T.ez_22, T.fo_108_0, T.fo_108_1, T.fo_31_0, T.fo_31_1, T.fo_31_2, T.fo_31_3, T.fo_31_4, T.fo_31_5, T.fo_31_9, T.gf_60, T.gf_61, T.gf_62, T.gf_63, T.gf_64, T.ib_25, T.ib_3, T.ib_5, T.ii_22, T.ii_28, T.ii_3, T.ii_5, T.ip_25, T.ip_3, T.ip_5, T.pl_108, T.pl_31, T.s8_22, T.s8_28, T.s8_3, T.s8_5, T.sl_22, T.sl_28, T.sl_3, T.sl_5, T.st_22, T.st_28, T.st_3, T.st_5, T.un_22, T.un_28, T.un_3, T.un_5, T.zo_108, T.zo_31, hR5.r6, hst, hE]
                refine ⟨o3, _, 2, 5, four w.bytes, d.bytes, s.bytes, [], 0, .slice none 0 0, [], ⟨hR5.r0, hR5.r2, hR5.r3, hR5.r4, hR5.r5, hR5.r6, hR5.r7⟩, G5, .inl ⟨rfl, rfl⟩, ?_⟩
                have e0 : (if s.e = 0 ∧ (s.rest.length = 0 ∨ s.rest.length % 4 ≠ 0 ∨ 64 < s.rest.length) then (2 : Int) else s.e) = 2 := if_pos ⟨he, .inl (by omega)⟩
                rw [getL, hw]; simp only []; rw [if_neg hnv, hd, hs, if_pos hv, e0, if_pos (by decide), if_neg (by decide)]
            · refine loop_intro [] hm (fun r H => GR r p o (t.length + 1) h.next (h.next + 1) hc ∧ GL H (h.next + 1) p o3 vs q s.rest s.e h.next hc (hd9 5 (four w.bytes) d.bytes s.bytes [] 0 ++ [Value.slice Option.none 0 0])) (fun _ _ => (0 : Nat)) ⟨hg _ fun i hi => ?_, G4⟩ ?_
              · match i, hi with
                | 0, _ | 1, _ | 2, _ | 3, _ | 4, _ | 5, _ | 6, _ | 7, _ => rfl
              · rintro r5 H5 ⟨hR5, G5⟩
                have hst := G5.inp.st
                have hE : (s.e = 0) = False := eq_false he
                simp (config := { dsimp := false }) only [go_sem, reduceIte, Nat.reduceEqDiff, reduceCtorEq, Nat.reduceAdd, Nat.reduceMul, Int.reduceToNat, Int.reduceLE, Int.reduceLT, Int.reduceEq, Int.reduceNe, Nat.reduceLeDiff, Int.reducePow, Nat.reducePow, Nat.reduceLT, Nat.reduceSub, Nat.reduceMod, Nat.reduceDiv, T.ag_22, T.ag_25, T.ag_28, T.ag_3, T.ag_31, T.ag_5, T.ag_9, T.eb_22, T.es_28, T.ez_22, T.fo_108_0, T.fo_108_1, T.fo_31_0, T.fo_31_1, T.fo_31_2, T.fo_31_3, T.fo_31_4, T.fo_31_5, T.fo_31_9, T.gf_60, T.gf_61, T.gf_62, T.gf_63, T.gf_64, T.ib_25, T.ib_3, T.ib_5, T.ii_22, T.ii_28, T.ii_3, T.ii_5, T.ip_25, T.ip_3, T.ip_5, T.pl_108, T.pl_31, T.s8_22, T.s8_28, T.s8_3, T.s8_5, T.sl_22, T.sl_28, T.sl_3, T.sl_5, T.st_22, T.st_28, T.st_3, T.st_5, T.un_22, T.un_28, T.un_3, T.un_5, T.zo_108, T.zo_31, hR5.r6, hst, hE]
                refine ⟨o3, _, s.e, 5, four w.bytes, d.bytes, s.bytes, [], 0, .slice none 0 0, [], ⟨hR5.r0, hR5.r2, hR5.r3, hR5.r4, hR5.r5, hR5.r6, hR5.r7⟩, G5, .inl ⟨rfl, rfl⟩, ?_⟩
                have e0 : (if s.e = 0 ∧ (s.rest.length = 0 ∨ s.rest.length % 4 ≠ 0 ∨ 64 < s.rest.length) then (2 : Int) else s.e) = s.e := if_neg (fun x => he x.1)
                rw [getL, hw]; simp only []; rw [if_neg hnv, hd, hs, if_pos hv, e0, if_pos he, if_neg he]
          · have hv' : (decide (w.e = 0) && decide (four w.bytes = 0)) = false := by
              rcases Classical.em (w.e = 0) with a | a
              · have : ¬ four w.bytes = 0 := fun x => hv ⟨a, x⟩
                simp [a, this]
              · simp [a]
            rw [hv'] at h8'
            by_cases hk3 : kind b = 3
            · have hk : ((kind b : Int) = 3) = True := eq_true (by omega)
              simp (config := { dsimp := false }) only [go_sem, reduceIte, Nat.reduceEqDiff, reduceCtorEq, Nat.reduceAdd, Nat.reduceMul, Int.reduceToNat, Int.reduceLE, Int.reduceLT, Int.reduceEq, Int.reduceNe, Nat.reduceLeDiff, Int.reducePow, Nat.reducePow, Nat.reduceLT, Nat.reduceSub, Nat.reduceMod, Nat.reduceDiv, T.ag_22, T.ag_25, T.ag_28, T.ag_3, T.ag_31, T.ag_5, T.ag_9, T.eb_22, T.es_28, T.ez_22, T.fo_108_0, T.fo_108_1, T.fo_31_0, T.fo_31_1, T.fo_31_2, T.fo_31_3, T.fo_31_4, T.fo_31_5, T.fo_31_9, T.gf_60, T.gf_61, T.gf_62, T.gf_63, T.gf_64, T.ib_25, T.ib_3, T.ib_5, T.ii_22, T.ii_28, T.ii_3, T.ii_5, T.ip_25, T.ip_3, T.ip_5, T.pl_108, T.pl_31, T.s8_22, T.s8_28, T.s8_3, T.s8_5, T.sl_22, T.sl_28, T.sl_3, T.sl_5, T.st_22, T.st_28, T.st_3, T.st_5, T.un_22, T.un_28, T.un_3, T.un_5, T.zo_108, T.zo_31, hR3.r6, hR3.r7, h8', hst, hhd, hk, hd9, decide_true]
              refine (text_ph _ G3.inp _ 512 G3.inp.ll).mono fun v H4 ⟨hv4, o4, n4, k4⟩ => ?_
              subst hv4
              have G4 := G3.keep n4 k4
              have hhd := G4.hdr
              simp (config := { dsimp := false }) only [go_sem, reduceIte, Nat.reduceEqDiff, reduceCtorEq, Nat.reduceAdd, Nat.reduceMul, Int.reduceToNat, Int.reduceLE, Int.reduceLT, Int.reduceEq, Int.reduceNe, Nat.reduceLeDiff, Int.reducePow, Nat.reducePow, Nat.reduceLT, Nat.reduceSub, Nat.reduceMod, Nat.reduceDiv, T.ag_22, T.ag_25, T.ag_28, T.ag_3, T.ag_31, T.ag_5, T.ag_9, T.eb_22, T.es_28, T.ez_22, T.fo_108_0, T.fo_108_1, T.fo_31_0, T.fo_31_1, T.fo_31_2, T.fo_31_3, T.fo_31_4, T.fo_31_5, T.fo_31_9, T.gf_60, T.gf_61, T.gf_62, T.gf_63, T.gf_64, T.ib_25, T.ib_3, T.ib_5, T.ii_22, T.ii_28, T.ii_3, T.ii_5, T.ip_25, T.ip_3, T.ip_5, T.pl_108, T.pl_31, T.s8_22, T.s8_28, T.s8_3, T.s8_5, T.sl_22, T.sl_28, T.sl_3, T.sl_5, T.st_22, T.st_28, T.st_3, T.st_5, T.un_22, T.un_28, T.un_3, T.un_5, T.zo_108, T.zo_31, hR3.r6, hR3.r7, hhd, hd9]
              have G5 := G4.put (hd9 (kind b) (four w.bytes) d.bytes s.bytes (textS s.rest s.e s.rest.length 512).bytes 0 ++ [.slice none 0 0])
              refine ⟨o4, _, _, (kind b : Int), four w.bytes, d.bytes, s.bytes, (textS s.rest s.e s.rest.length 512).bytes, 0, .slice none 0 0, [], hg _ fun i hi => ?_, G5, .inl ⟨rfl, rfl⟩, ?_⟩
              · match i, hi with
                | 0, _ | 1, _ | 2, _ | 3, _ | 4, _ | 5, _ | 6, _ | 7, _ => rfl
              · rw [getL, hw]; simp only []; rw [if_neg hnv, hd, hs, if_neg hv, if_pos hk3, hk3]
                by_cases he : (textS s.rest s.e s.rest.length 512).e = 0
                · rw [if_neg (fun x => x he), if_pos he]; rfl
                · rw [if_pos he, if_neg he]
            · have hk : ((kind b : Int) = 3) = False := eq_false (by omega)
              by_cases hk0 : kind b = 0
              · have hz : ((kind b : Int) = 0) = True := eq_true (by omega)
                simp (config := { dsimp := false }) only [go_sem, reduceIte, Nat.reduceEqDiff, reduceCtorEq, Nat.reduceAdd, Nat.reduceMul, Int.reduceToNat, Int.reduceLE, Int.reduceLT, Int.reduceEq, Int.reduceNe, Nat.reduceLeDiff, Int.reducePow, Nat.reducePow, Nat.reduceLT, Nat.reduceSub, Nat.reduceMod, Nat.reduceDiv, T.ag_22, T.ag_25, T.ag_28, T.ag_3, T.ag_31, T.ag_5, T.ag_9, T.eb_22, T.es_28, T.ez_22, T.fo_108_0, T.fo_108_1, T.fo_31_0, T.fo_31_1, T.fo_31_2, T.fo_31_3, T.fo_31_4, T.fo_31_5, T.fo_31_9, T.gf_60, T.gf_61, T.gf_62, T.gf_63, T.gf_64, T.ib_25, T.ib_3, T.ib_5, T.ii_22, T.ii_28, T.ii_3, T.ii_5, T.ip_25, T.ip_3, T.ip_5, T.pl_108, T.pl_31, T.s8_22, T.s8_28, T.s8_3, T.s8_5, T.sl_22, T.sl_28, T.sl_3, T.sl_5, T.st_22, T.st_28, T.st_3, T.st_5, T.un_22, T.un_28, T.un_3, T.un_5, T.zo_108, T.zo_31, hR3.r6, hR3.r7, h8', hst, hhd, hk, hz, hd9, decide_true, decide_false]
                refine (count_ph _ G3.inp 512 (by omega)).mono fun v H4 ⟨hv4, o4, n4, k4⟩ => ?_
                subst hv4
                have G4 := G3.keep n4 k4
                have hhd := G4.hdr
                simp (config := { dsimp := false }) only [go_sem, reduceIte, Nat.reduceEqDiff, reduceCtorEq, Nat.reduceAdd, Nat.reduceMul, Int.reduceToNat, Int.reduceLE, Int.reduceLT, Int.reduceEq, Int.reduceNe, Nat.reduceLeDiff, Int.reducePow, Nat.reducePow, Nat.reduceLT, Nat.reduceSub, Nat.reduceMod, Nat.reduceDiv, T.ag_22, T.ag_25, T.ag_28, T.ag_3, T.ag_31, T.ag_5, T.ag_9, T.eb_22, T.es_28, T.ez_22, T.fo_108_0, T.fo_108_1, T.fo_31_0, T.fo_31_1, T.fo_31_2, T.fo_31_3, T.fo_31_4, T.fo_31_5, T.fo_31_9, T.gf_60, T.gf_61, T.gf_62, T.gf_63, T.gf_64, T.ib_25, T.ib_3, T.ib_5, T.ii_22, T.ii_28, T.ii_3, T.ii_5, T.ip_25, T.ip_3, T.ip_5, T.pl_108, T.pl_31, T.s8_22, T.s8_28, T.s8_3, T.s8_5, T.sl_22, T.sl_28, T.sl_3, T.sl_5, T.st_22, T.st_28, T.st_3, T.st_5, T.un_22, T.un_28, T.un_3, T.un_5, T.zo_108, T.zo_31, hR3.r6, hR3.r7, hhd, hd9]
                refine (text_ph _ n4 _ 512 (countS_lt _ _ _)).mono fun v H5 ⟨hv5, o5, n5, k5⟩ => ?_
                subst hv5
                have G5 := G4.keep n5 k5
                generalize hx : textS (countS s.rest s.e 512).2.1 (countS s.rest s.e 512).2.2 (countS s.rest s.e 512).1 512 = x at n5 G5
                have hhd := G5.hdr
                simp (config := { dsimp := false }) only [go_sem, reduceIte, Nat.reduceEqDiff, reduceCtorEq, Nat.reduceAdd, Nat.reduceMul, Int.reduceToNat, Int.reduceLE, Int.reduceLT, Int.reduceEq, Int.reduceNe, Nat.reduceLeDiff, Int.reducePow, Nat.reducePow, Nat.reduceLT, Nat.reduceSub, Nat.reduceMod, Nat.reduceDiv, T.ag_22, T.ag_25, T.ag_28, T.ag_3, T.ag_31, T.ag_5, T.ag_9, T.eb_22, T.es_28, T.ez_22, T.fo_108_0, T.fo_108_1, T.fo_31_0, T.fo_31_1, T.fo_31_2, T.fo_31_3, T.fo_31_4, T.fo_31_5, T.fo_31_9, T.gf_60, T.gf_61, T.gf_62, T.gf_63, T.gf_64, T.ib_25, T.ib_3, T.ib_5, T.ii_22, T.ii_28, T.ii_3, T.ii_5, T.ip_25, T.ip_3, T.ip_5, T.pl_108, T.pl_31, T.s8_22, T.s8_28, T.s8_3, T.s8_5, T.sl_22, T.sl_28, T.sl_3, T.sl_5, T.st_22, T.st_28, T.st_3, T.st_5, T.un_22, T.un_28, T.un_3, T.un_5, T.zo_108, T.zo_31, hR3.r6, hR3.r7, hhd, hd9, hx]
                have G := G5.put (hd9 (kind b) (four w.bytes) d.bytes s.bytes x.bytes 0 ++ [.slice none 0 0])
                have hn1 : (h.next + 1 = hc) = False := eq_false (fun x => G.d3 x.symm)
                have hcl := countS_lt x.rest x.e 16383
                refine (count_ph _ G.inp 16383 (by omega)).mono fun v H6 ⟨hv6, o6, n6, k6⟩ => ?_
                subst hv6
                have G6 := G.keep n6 k6
                generalize hc1 : countS x.rest x.e 16383 = c at n6 G6 hcl ⊢
                have hhd := G6.hdr
                have hst := G6.inp.st
                simp (config := { dsimp := false }) only [go_sem, reduceIte, Nat.reduceEqDiff, reduceCtorEq, Nat.reduceAdd, Nat.reduceMul, Int.reduceToNat, Int.reduceLE, Int.reduceLT, Int.reduceEq, Int.reduceNe, Nat.reduceLeDiff, Int.reducePow, Nat.reducePow, Nat.reduceLT, Nat.reduceSub, Nat.reduceMod, Nat.reduceDiv, T.ag_22, T.ag_25, T.ag_28, T.ag_3, T.ag_31, T.ag_5, T.ag_9, T.eb_22, T.es_28, T.ez_22, T.fo_108_0, T.fo_108_1, T.fo_31_0, T.fo_31_1, T.fo_31_2, T.fo_31_3, T.fo_31_4, T.fo_31_5, T.fo_31_9, T.gf_60, T.gf_61, T.gf_62, T.gf_63, T.gf_64, T.ib_25, T.ib_3, T.ib_5, T.ii_22, T.ii_28, T.ii_3, T.ii_5, T.ip_25, T.ip_3, T.ip_5, T.pl_108, T.pl_31, T.s8_22, T.s8_28, T.s8_3, T.s8_5, T.sl_22, T.sl_28, T.sl_3, T.sl_5, T.st_22, T.st_28, T.st_3, T.st_5, T.un_22, T.un_28, T.un_3, T.un_5, T.zo_108, T.zo_31, hR3.r0, hR3.r6, hR3.r7, hhd, hst, hd9, hn1]
                refine (take_ph _ (G6.put (hd9 (kind b) (four w.bytes) d.bytes s.bytes x.bytes c.1 ++ [.slice none 0 0])).inp c.1 hcl).mono fun v H7 ⟨o7, n7, k7, _⟩ => ?_
                have G7 := (G6.put (hd9 (kind b) (four w.bytes) d.bytes s.bytes x.bytes c.1 ++ [.slice none 0 0])).keep n7 k7
                generalize hy : takeS c.2.1 c.2.2 c.1 = y at n7 G7
                have hhd := G7.hdr
                have hst := G7.inp.st
                have hres := G7.res
                simp (config := { dsimp := false }) only [go_sem, reduceIte, Nat.reduceEqDiff, reduceCtorEq, Nat.reduceAdd, Nat.reduceMul, Int.reduceToNat, Int.reduceLE, Int.reduceLT, Int.reduceEq, Int.reduceNe, Nat.reduceLeDiff, Int.reducePow, Nat.reducePow, Nat.reduceLT, Nat.reduceSub, Nat.reduceMod, Nat.reduceDiv, T.ag_22, T.ag_25, T.ag_28, T.ag_3, T.ag_31, T.ag_5, T.ag_9, T.eb_22, T.es_28, T.ez_22, T.fo_108_0, T.fo_108_1, T.fo_31_0, T.fo_31_1, T.fo_31_2, T.fo_31_3, T.fo_31_4, T.fo_31_5, T.fo_31_9, T.gf_60, T.gf_61, T.gf_62, T.gf_63, T.gf_64, T.ib_25, T.ib_3, T.ib_5, T.ii_22, T.ii_28, T.ii_3, T.ii_5, T.ip_25, T.ip_3, T.ip_5, T.pl_108, T.pl_31, T.s8_22, T.s8_28, T.s8_3, T.s8_5, T.sl_22, T.sl_28, T.sl_3, T.sl_5, T.st_22, T.st_28, T.st_3, T.st_5, T.un_22, T.un_28, T.un_3, T.un_5, T.zo_108, T.zo_31, hR3.r2, hR3.r6, hst]
                have hn2 : (h.next + 1 = h.next) = False := eq_false (by omega)
                have hn3 : (hc = h.next) = False := eq_false G.d5
                refine ⟨fun he => ?_, fun he => ?_⟩
                · refine draw_plan [h.next] (.take 0 (.take 1 (.take 2 (.take 3 (.take 4 (.alt 5 (.take 6 (.take 7 (.take 8 .done))) .stop)))))) hm (by kernel_rfl) (by kernel_rfl) ?_
                  simp (config := { dsimp := false }) only [go_sem, reduceIte, Nat.reduceEqDiff, reduceCtorEq, Nat.reduceAdd, Nat.reduceMul, Int.reduceToNat, Int.reduceLE, Int.reduceLT, Int.reduceEq, Int.reduceNe, Nat.reduceLeDiff, Int.reducePow, Nat.reducePow, Nat.reduceLT, Nat.reduceSub, Nat.reduceMod, Nat.reduceDiv, T.ag_22, T.ag_25, T.ag_28, T.ag_3, T.ag_31, T.ag_5, T.ag_9, T.eb_22, T.es_28, T.ez_22, T.fo_108_0, T.fo_108_1, T.fo_31_0, T.fo_31_1, T.fo_31_2, T.fo_31_3, T.fo_31_4, T.fo_31_5, T.fo_31_9, T.gf_60, T.gf_61, T.gf_62, T.gf_63, T.gf_64, T.ib_25, T.ib_3, T.ib_5, T.ii_22, T.ii_28, T.ii_3, T.ii_5, T.ip_25, T.ip_3, T.ip_5, T.pl_108, T.pl_31, T.s8_22, T.s8_28, T.s8_3, T.s8_5, T.sl_22, T.sl_28, T.sl_3, T.sl_5, T.st_22, T.st_28, T.st_3, T.st_5, T.un_22, T.un_28, T.un_3, T.un_5, T.zo_108, T.zo_31, hR3.r2, hR3.r6, hst, hres, hn2, G7.inp.sn, Z31]
                  have hg : getL b t = noneR y.e := by
                    rw [getL, hw]; simp only []; rw [if_neg hnv, hd, hs, if_neg hv, if_neg hk3, if_pos hk0, hx, hc1, hy, if_pos he]
                  rw [hg]
                  exact GRes.none _ _
                · refine draw_plan [h.next] (.take 0 (.take 1 (.take 2 (.take 3 (.take 4 (.take 5 (.alt 6 (.take 7 (.take 8 (.take 9 .done))) .stop))))))) hm (by kernel_rfl) (by kernel_rfl) ?_
                  have he := Classical.not_not.1 he
                  have hok := takeS_ok (l := c.2.1) (e := c.2.2) (n := c.1) (by rw [hy]; exact he)
                  have hll6 := G6.inp.ll
                  have w1 : IntKind.i64.wrap (((t.length + 1 : Nat) : Int) - (c.2.1.length : Nat)) = ((t.length + 1 : Nat) : Int) - (c.2.1.length : Nat) := by rw [i64wrap] <;> omega
                  have w2 : IntKind.i64.wrap (((t.length + 1 : Nat) : Int) - (c.2.1.length : Nat) + (c.1 : Nat)) = ((t.length + 1 : Nat) : Int) - (c.2.1.length : Nat) + (c.1 : Nat) := by rw [i64wrap] <;> omega
                  simp (config := { dsimp := false }) only [go_sem, reduceIte, Nat.reduceEqDiff, reduceCtorEq, Nat.reduceAdd, Nat.reduceMul, Int.reduceToNat, Int.reduceLE, Int.reduceLT, Int.reduceEq, Int.reduceNe, Nat.reduceLeDiff, Int.reducePow, Nat.reducePow, Nat.reduceLT, Nat.reduceSub, Nat.reduceMod, Nat.reduceDiv, T.ag_22, T.ag_25, T.ag_28, T.ag_3, T.ag_31, T.ag_5, T.ag_9, T.eb_22, T.es_28, T.ez_22, T.fo_108_0, T.fo_108_1, T.fo_31_0, T.fo_31_1, T.fo_31_2, T.fo_31_3, T.fo_31_4, T.fo_31_5, T.fo_31_9, T.gf_60, T.gf_61, T.gf_62, T.gf_63, T.gf_64, T.ib_25, T.ib_3, T.ib_5, T.ii_22, T.ii_28, T.ii_3, T.ii_5, T.ip_25, T.ip_3, T.ip_5, T.pl_108, T.pl_31, T.s8_22, T.s8_28, T.s8_3, T.s8_5, T.sl_22, T.sl_28, T.sl_3, T.sl_5, T.st_22, T.st_28, T.st_3, T.st_5, T.un_22, T.un_28, T.un_3, T.un_5, T.zo_108, T.zo_31, hR3.r2, hR3.r6, hR3.r7, hhd, hres, hn3, G7.hn, hd9, Z31, w1, w2]
                  have hg : getL b t = ⟨hd9 (kind b) (four w.bytes) d.bytes s.bytes x.bytes c.1, [], ((t.length + 1 : Nat) : Int) - c.2.1.length, ((t.length + 1 : Nat) : Int) - c.2.1.length + c.1, 0⟩ := by
                    rw [getL, hw]; simp only []; rw [if_neg hnv, hd, hs, if_neg hv, if_neg hk3, if_pos hk0, hx, hc1, hy, if_neg (fun x => x he)]
                  rw [hg]
                  exact ⟨.slice none 0 0, rfl, .inl ⟨rfl, rfl⟩⟩
              · have hz : ((kind b : Int) = 0) = False := eq_false (by omega)
                simp (config := { dsimp := false }) only [go_sem, reduceIte, Nat.reduceEqDiff, reduceCtorEq, Nat.reduceAdd, Nat.reduceMul, Int.reduceToNat, Int.reduceLE, Int.reduceLT, Int.reduceEq, Int.reduceNe, Nat.reduceLeDiff, Int.reducePow, Nat.reducePow, Nat.reduceLT, Nat.reduceSub, Nat.reduceMod, Nat.reduceDiv, T.ag_22, T.ag_25, T.ag_28, T.ag_3, T.ag_31, T.ag_5, T.ag_9, T.eb_22, T.es_28, T.ez_22, T.fo_108_0, T.fo_108_1, T.fo_31_0, T.fo_31_1, T.fo_31_2, T.fo_31_3, T.fo_31_4, T.fo_31_5, T.fo_31_9, T.gf_60, T.gf_61, T.gf_62, T.gf_63, T.gf_64, T.ib_25, T.ib_3, T.ib_5, T.ii_22, T.ii_28, T.ii_3, T.ii_5, T.ip_25, T.ip_3, T.ip_5, T.pl_108, T.pl_31, T.s8_22, T.s8_28, T.s8_3, T.s8_5, T.sl_22, T.sl_28, T.sl_3, T.sl_5, T.st_22, T.st_28, T.st_3, T.st_5, T.un_22, T.un_28, T.un_3, T.un_5, T.zo_108, T.zo_31, hR3.r6, hR3.r7, h8', hst, hhd, hk, hz, hd9, decide_true, decide_false]
                obtain ⟨x, hx⟩ : ∃ x : TakeR, x = ⟨[], s.rest, s.e⟩ := ⟨_, rfl⟩
                have G : GL H3 (h.next + 1) p o3 vs q x.rest x.e h.next hc (hd9 (kind b) (four w.bytes) d.bytes s.bytes x.bytes 0 ++ [.slice none 0 0]) := by rw [hx]; exact G3
                have hn1 : (h.next + 1 = hc) = False := eq_false (fun x => G.d3 x.symm)
                have hcl := countS_lt x.rest x.e 16383
                refine (count_ph _ G.inp 16383 (by omega)).mono fun v H6 ⟨hv6, o6, n6, k6⟩ => ?_
                subst hv6
                have G6 := G.keep n6 k6
                generalize hc1 : countS x.rest x.e 16383 = c at n6 G6 hcl ⊢
                have hhd := G6.hdr
                have hst := G6.inp.st
                simp (config := { dsimp := false }) only [go_sem, reduceIte, Nat.reduceEqDiff, reduceCtorEq, Nat.reduceAdd, Nat.reduceMul, Int.reduceToNat, Int.reduceLE, Int.reduceLT, Int.reduceEq, Int.reduceNe, Nat.reduceLeDiff, Int.reducePow, Nat.reducePow, Nat.reduceLT, Nat.reduceSub, Nat.reduceMod, Nat.reduceDiv, T.ag_22, T.ag_25, T.ag_28, T.ag_3, T.ag_31, T.ag_5, T.ag_9, T.eb_22, T.es_28, T.ez_22, T.fo_108_0, T.fo_108_1, T.fo_31_0, T.fo_31_1, T.fo_31_2, T.fo_31_3, T.fo_31_4, T.fo_31_5, T.fo_31_9, T.gf_60, T.gf_61, T.gf_62, T.gf_63, T.gf_64, T.ib_25, T.ib_3, T.ib_5, T.ii_22, T.ii_28, T.ii_3, T.ii_5, T.ip_25, T.ip_3, T.ip_5, T.pl_108, T.pl_31, T.s8_22, T.s8_28, T.s8_3, T.s8_5, T.sl_22, T.sl_28, T.sl_3, T.sl_5, T.st_22, T.st_28, T.st_3, T.st_5, T.un_22, T.un_28, T.un_3, T.un_5, T.zo_108, T.zo_31, hR3.r0, hR3.r6, hR3.r7, hhd, hst, hd9, hn1]
                refine (take_ph _ (G6.put (hd9 (kind b) (four w.bytes) d.bytes s.bytes x.bytes c.1 ++ [.slice none 0 0])).inp c.1 hcl).mono fun v H7 ⟨o7, n7, k7, _⟩ => ?_
                have G7 := (G6.put (hd9 (kind b) (four w.bytes) d.bytes s.bytes x.bytes c.1 ++ [.slice none 0 0])).keep n7 k7
                generalize hy : takeS c.2.1 c.2.2 c.1 = y at n7 G7
                have hhd := G7.hdr
                have hst := G7.inp.st
                have hres := G7.res
                simp (config := { dsimp := false }) only [go_sem, reduceIte, Nat.reduceEqDiff, reduceCtorEq, Nat.reduceAdd, Nat.reduceMul, Int.reduceToNat, Int.reduceLE, Int.reduceLT, Int.reduceEq, Int.reduceNe, Nat.reduceLeDiff, Int.reducePow, Nat.reducePow, Nat.reduceLT, Nat.reduceSub, Nat.reduceMod, Nat.reduceDiv, T.ag_22, T.ag_25, T.ag_28, T.ag_3, T.ag_31, T.ag_5, T.ag_9, T.eb_22, T.es_28, T.ez_22, T.fo_108_0, T.fo_108_1, T.fo_31_0, T.fo_31_1, T.fo_31_2, T.fo_31_3, T.fo_31_4, T.fo_31_5, T.fo_31_9, T.gf_60, T.gf_61, T.gf_62, T.gf_63, T.gf_64, T.ib_25, T.ib_3, T.ib_5, T.ii_22, T.ii_28, T.ii_3, T.ii_5, T.ip_25, T.ip_3, T.ip_5, T.pl_108, T.pl_31, T.s8_22, T.s8_28, T.s8_3, T.s8_5, T.sl_22, T.sl_28, T.sl_3, T.sl_5, T.st_22, T.st_28, T.st_3, T.st_5, T.un_22, T.un_28, T.un_3, T.un_5, T.zo_108, T.zo_31, hR3.r2, hR3.r6, hst]
                have hn2 : (h.next + 1 = h.next) = False := eq_false (by omega)
                have hn3 : (hc = h.next) = False := eq_false G.d5
                refine ⟨fun he => ?_, fun he => ?_⟩
                · refine draw_plan [h.next] (.take 0 (.take 1 (.take 2 (.take 3 (.take 4 (.alt 5 (.take 6 (.take 7 (.take 8 .done))) .stop)))))) hm (by kernel_rfl) (by kernel_rfl) ?_
                  simp (config := { dsimp := false }) only [go_sem, reduceIte, Nat.reduceEqDiff, reduceCtorEq, Nat.reduceAdd, Nat.reduceMul, Int.reduceToNat, Int.reduceLE, Int.reduceLT, Int.reduceEq, Int.reduceNe, Nat.reduceLeDiff, Int.reducePow, Nat.reducePow, Nat.reduceLT, Nat.reduceSub, Nat.reduceMod, Nat.reduceDiv, T.ag_22, T.ag_25, T.ag_28, T.ag_3, T.ag_31, T.ag_5, T.ag_9, T.eb_22, T.es_28, T.ez_22, T.fo_108_0, T.fo_108_1, T.fo_31_0, T.fo_31_1, T.fo_31_2, T.fo_31_3, T.fo_31_4, T.fo_31_5, T.fo_31_9, T.gf_60, T.gf_61, T.gf_62, T.gf_63, T.gf_64, T.ib_25, T.ib_3, T.ib_5, T.ii_22, T.ii_28, T.ii_3, T.ii_5, T.ip_25, T.ip_3, T.ip_5, T.pl_108, T.pl_31, T.s8_22, T.s8_28, T.s8_3, T.s8_5, T.sl_22, T.sl_28, T.sl_3, T.sl_5, T.st_22, T.st_28, T.st_3, T.st_5, T.un_22, T.un_28, T.un_3, T.un_5, T.zo_108, T.zo_31, hR3.r2, hR3.r6, hst, hres, hn2, G7.inp.sn, Z31]
                  have hg : getL b t = noneR y.e := by
                    rw [getL, hw]; simp only []; rw [if_neg hnv, hd, hs, if_neg hv, if_neg hk3, if_neg hk0, ← hx, hc1, hy, if_pos he]
                  rw [hg]
                  exact GRes.none _ _
                · refine draw_plan [h.next] (.take 0 (.take 1 (.take 2 (.take 3 (.take 4 (.take 5 (.alt 6 (.take 7 (.take 8 (.take 9 .done))) .stop))))))) hm (by kernel_rfl) (by kernel_rfl) ?_
                  have he := Classical.not_not.1 he
                  have hok := takeS_ok (l := c.2.1) (e := c.2.2) (n := c.1) (by rw [hy]; exact he)
                  have hll6 := G6.inp.ll
                  have w1 : IntKind.i64.wrap (((t.length + 1 : Nat) : Int) - (c.2.1.length : Nat)) = ((t.length + 1 : Nat) : Int) - (c.2.1.length : Nat) := by rw [i64wrap] <;> omega
                  have w2 : IntKind.i64.wrap (((t.length + 1 : Nat) : Int) - (c.2.1.length : Nat) + (c.1 : Nat)) = ((t.length + 1 : Nat) : Int) - (c.2.1.length : Nat) + (c.1 : Nat) := by rw [i64wrap] <;> omega
                  simp (config := { dsimp := false }) only [go_sem, reduceIte, Nat.reduceEqDiff, reduceCtorEq, Nat.reduceAdd, Nat.reduceMul, Int.reduceToNat, Int.reduceLE, Int.reduceLT, Int.reduceEq, Int.reduceNe, Nat.reduceLeDiff, Int.reducePow, Nat.reducePow, Nat.reduceLT, Nat.reduceSub, Nat.reduceMod, Nat.reduceDiv, T.ag_22, T.ag_25, T.ag_28, T.ag_3, T.ag_31, T.ag_5, T.ag_9, T.eb_22, T.es_28, T.ez_22, T.fo_108_0, T.fo_108_1, T.fo_31_0, T.fo_31_1, T.fo_31_2, T.fo_31_3, T.fo_31_4, T.fo_31_5, T.fo_31_9, T.gf_60, T.gf_61, T.gf_62, T.gf_63, T.gf_64, T.ib_25, T.ib_3, T.ib_5, T.ii_22, T.ii_28, T.ii_3, T.ii_5, T.ip_25, T.ip_3, T.ip_5, T.pl_108, T.pl_31, T.s8_22, T.s8_28, T.s8_3, T.s8_5, T.sl_22, T.sl_28, T.sl_3, T.sl_5, T.st_22, T.st_28, T.st_3, T.st_5, T.un_22, T.un_28, T.un_3, T.un_5, T.zo_108, T.zo_31, hR3.r2, hR3.r6, hR3.r7, hhd, hres, hn3, G7.hn, hd9, Z31, w1, w2]
                  have hg : getL b t = ⟨hd9 (kind b) (four w.bytes) d.bytes s.bytes x.bytes c.1, [], ((t.length + 1 : Nat) : Int) - c.2.1.length, ((t.length + 1 : Nat) : Int) - c.2.1.length + c.1, 0⟩ := by
                    rw [getL, hw]; simp only []; rw [if_neg hnv, hd, hs, if_neg hv, if_neg hk3, if_neg hk0, ← hx, hc1, hy, if_neg (fun x => x he)]
                  rw [hg]
                  exact ⟨.slice none 0 0, rfl, .inl ⟨rfl, rfl⟩⟩
        · rintro r4 H4 ⟨o', l', e', k, v, d, s, t', len, lst, list, hR4, G4, hJ, hg⟩
          have hst := G4.inp.st
          have hhd := G4.hdr
          have hres := G4.res
          have hn1 : (h.next + 1 = h.next) = False := eq_false (by omega)
          refine CodeH.of_vc [] hm (by kernel_rfl) ?_
          by_cases he : e' = 0
          · subst he
            rw [if_pos rfl] at hg
            simp (config := { dsimp := false }) only [go_sem, reduceIte, Nat.reduceEqDiff, reduceCtorEq, Nat.reduceAdd, Nat.reduceMul, Int.reduceToNat, Int.reduceLE, Int.reduceLT, Int.reduceEq, Int.reduceNe, Nat.reduceLeDiff, Int.reducePow, Nat.reducePow, Nat.reduceLT, Nat.reduceSub, Nat.reduceMod, Nat.reduceDiv, T.ag_22, T.ag_25, T.ag_28, T.ag_3, T.ag_31, T.ag_5, T.ag_9, T.eb_22, T.es_28, T.ez_22, T.fo_108_0, T.fo_108_1, T.fo_31_0, T.fo_31_1, T.fo_31_2, T.fo_31_3, T.fo_31_4, T.fo_31_5, T.fo_31_9, T.gf_60, T.gf_61, T.gf_62, T.gf_63, T.gf_64, T.ib_25, T.ib_3, T.ib_5, T.ii_22, T.ii_28, T.ii_3, T.ii_5, T.ip_25, T.ip_3, T.ip_5, T.pl_108, T.pl_31, T.s8_22, T.s8_28, T.s8_3, T.s8_5, T.sl_22, T.sl_28, T.sl_3, T.sl_5, T.st_22, T.st_28, T.st_3, T.st_5, T.un_22, T.un_28, T.un_3, T.un_5, T.zo_108, T.zo_31, hR4.r0, hR4.r2, hR4.r6, hR4.r7, hst, hhd, hres, hd9, Z31, Int.natCast_nonneg]
            rw [hg]
            have hlst : lst.oneCell' = true := by rcases hJ with ⟨rfl, _⟩ | ⟨i, q', _, _, _, rfl, _⟩ <;> rfl
            exact ⟨by simp [hlst], lst, rfl, hJ.put⟩
          · have he' : (e' = 0) = False := eq_false he
            rw [if_neg he] at hg
            simp (config := { dsimp := false }) only [go_sem, reduceIte, Nat.reduceEqDiff, reduceCtorEq, Nat.reduceAdd, Nat.reduceMul, Int.reduceToNat, Int.reduceLE, Int.reduceLT, Int.reduceEq, Int.reduceNe, Nat.reduceLeDiff, Int.reducePow, Nat.reducePow, Nat.reduceLT, Nat.reduceSub, Nat.reduceMod, Nat.reduceDiv, T.ag_22, T.ag_25, T.ag_28, T.ag_3, T.ag_31, T.ag_5, T.ag_9, T.eb_22, T.es_28, T.ez_22, T.fo_108_0, T.fo_108_1, T.fo_31_0, T.fo_31_1, T.fo_31_2, T.fo_31_3, T.fo_31_4, T.fo_31_5, T.fo_31_9, T.gf_60, T.gf_61, T.gf_62, T.gf_63, T.gf_64, T.ib_25, T.ib_3, T.ib_5, T.ii_22, T.ii_28, T.ii_3, T.ii_5, T.ip_25, T.ip_3, T.ip_5, T.pl_108, T.pl_31, T.s8_22, T.s8_28, T.s8_3, T.s8_5, T.sl_22, T.sl_28, T.sl_3, T.sl_5, T.st_22, T.st_28, T.st_3, T.st_5, T.un_22, T.un_28, T.un_3, T.un_5, T.zo_108, T.zo_31, hR4.r2, hR4.r6, hst, he']
            refine draw_plan [h.next] (.take 0 (.take 1 (.take 2 (.take 3 (.take 4 (.alt 5 (.take 6 (.take 7 (.take 8 .done))) .stop)))))) hm (by kernel_rfl) (by kernel_rfl) ?_
            simp (config := { dsimp := false }) only [go_sem, reduceIte, Nat.reduceEqDiff, reduceCtorEq, Nat.reduceAdd, Nat.reduceMul, Int.reduceToNat, Int.reduceLE, Int.reduceLT, Int.reduceEq, Int.reduceNe, Nat.reduceLeDiff, Int.reducePow, Nat.reducePow, Nat.reduceLT, Nat.reduceSub, Nat.reduceMod, Nat.reduceDiv, T.ag_22, T.ag_25, T.ag_28, T.ag_3, T.ag_31, T.ag_5, T.ag_9, T.eb_22, T.es_28, T.ez_22, T.fo_108_0, T.fo_108_1, T.fo_31_0, T.fo_31_1, T.fo_31_2, T.fo_31_3, T.fo_31_4, T.fo_31_5, T.fo_31_9, T.gf_60, T.gf_61, T.gf_62, T.gf_63, T.gf_64, T.ib_25, T.ib_3, T.ib_5, T.ii_22, T.ii_28, T.ii_3, T.ii_5, T.ip_25, T.ip_3, T.ip_5, T.pl_108, T.pl_31, T.s8_22, T.s8_28, T.s8_3, T.s8_5, T.sl_22, T.sl_28, T.sl_3, T.sl_5, T.st_22, T.st_28, T.st_3, T.st_5, T.un_22, T.un_28, T.un_3, T.un_5, T.zo_108, T.zo_31, hR4.r2, hR4.r6, hst, hres, he', hn1, G4.inp.sn, Z31]
            rw [hg]
            exact GRes.none e' _
  simp (config := { dsimp := false }) only [go_sem, reduceIte, Nat.reduceEqDiff, reduceCtorEq, Nat.reduceAdd, Nat.reduceMul, Int.reduceToNat, Int.reduceLE, Int.reduceLT, Int.reduceEq, Int.reduceNe, Nat.reduceLeDiff, Int.reducePow, Nat.reducePow, Nat.reduceLT, Nat.reduceSub, Nat.reduceMod, Nat.reduceDiv, T.ag_22, T.ag_25, T.ag_28, T.ag_3, T.ag_31, T.ag_5, T.ag_9, T.eb_22, T.es_28, T.ez_22, T.fo_108_0, T.fo_108_1, T.fo_31_0, T.fo_31_1, T.fo_31_2, T.fo_31_3, T.fo_31_4, T.fo_31_5, T.fo_31_9, T.gf_60, T.gf_61, T.gf_62, T.gf_63, T.gf_64, T.ib_25, T.ib_3, T.ib_5, T.ii_22, T.ii_28, T.ii_3, T.ii_5, T.ip_25, T.ip_3, T.ip_5, T.pl_108, T.pl_31, T.s8_22, T.s8_28, T.s8_3, T.s8_5, T.sl_22, T.sl_28, T.sl_3, T.sl_5, T.st_22, T.st_28, T.st_3, T.st_5, T.un_22, T.un_28, T.un_3, T.un_5, T.zo_108, T.zo_31, init_a, hdt, b0, e1]
  refine ⟨by omega, draw_plan [h.next + 1] (.take 0 (.take 1 (.take 2 (.take 3 (.take 4 (.take 5 (.take 6 (.alt 7 (.take 8 (.alt 9 (.alt 10 .done .stop) .stop)) (.alt 9 (.alt 7 (.take 8 (.alt 10 .done .stop)) .stop) .stop))))))))) hm (by kernel_rfl) (by kernel_rfl) ?_⟩
  obtain ⟨s, hs⟩ : ∃ s, s = h.next + 1 := ⟨_, rfl⟩
  obtain ⟨rc, hrc⟩ : ∃ rc, rc = h.next := ⟨_, rfl⟩
  simp only [← hs]; simp only [← hrc]
  generalize hH : (h.alloc _).alloc _ = H
  have i0 : In H s p (o + 1) vs q t 0 := by
    subst hH hs hrc
    refine ⟨by simp [Heap.alloc], ?_, ?_, by omega, by omega, by simp [Heap.alloc], by simp [Heap.alloc]; omega, by omega⟩
    · have q1 : p ≠ h.next := by omega
      have q2 : p ≠ h.next + 1 := by omega
      simp [Heap.alloc, q1, q2, hdt]
    · have := congrArg (List.drop 1) hrow
      rw [List.drop_take, List.drop_drop] at this
      simpa [bc] using this
  have r0 : H.get rc = .live (.cells Z31 .own) := by subst hH hrc; simp [Heap.alloc, Z31]
  have rn : rc < H.next := by subst hH hrc; simp [Heap.alloc]; omega
  have n1 : (p = s) = False := eq_false i0.ne
  have n2 : (p = rc) = False := eq_false (by omega)
  have n3 : (rc = s) = False := eq_false (by omega)
  have hst := i0.st
  have hdt' := i0.dt
  have hpn : (p < H.next) = True := eq_true i0.pn
  clear hH
  simp (config := { dsimp := false }) only [go_sem, reduceIte, Nat.reduceEqDiff, reduceCtorEq, Nat.reduceAdd, Nat.reduceMul, Int.reduceToNat, Int.reduceLE, Int.reduceLT, Int.reduceEq, Int.reduceNe, Nat.reduceLeDiff, Int.reducePow, Nat.reducePow, Nat.reduceLT, Nat.reduceSub, Nat.reduceMod, Nat.reduceDiv, T.ag_22, T.ag_25, T.ag_28, T.ag_3, T.ag_31, T.ag_5, T.ag_9, T.eb_22, T.es_28, T.ez_22, T.fo_108_0, T.fo_108_1, T.fo_31_0, T.fo_31_1, T.fo_31_2, T.fo_31_3, T.fo_31_4, T.fo_31_5, T.fo_31_9, T.gf_60, T.gf_61, T.gf_62, T.gf_63, T.gf_64, T.ib_25, T.ib_3, T.ib_5, T.ii_22, T.ii_28, T.ii_3, T.ii_5, T.ip_25, T.ip_3, T.ip_5, T.pl_108, T.pl_31, T.s8_22, T.s8_28, T.s8_3, T.s8_5, T.sl_22, T.sl_28, T.sl_3, T.sl_5, T.st_22, T.st_28, T.st_3, T.st_5, T.un_22, T.un_28, T.un_3, T.un_5, T.zo_108, T.zo_31, hdt', b0, e1, n1, n2, n3, hpn]
  refine ⟨by omega, (word_ph _ i0.mask).mono fun v H1 ⟨hv, o', w1, w2⟩ => ?_, (word_ph _ (i0.mask.alloc _)).mono fun v H1 ⟨hv, o', w1, w2⟩ => ?_⟩
  · subst hv
    have m1 : (H1.next = s) = False := eq_false (by have := w1.sn; omega)
    simp (config := { dsimp := false }) only [go_sem, reduceIte, Nat.reduceEqDiff, reduceCtorEq, Nat.reduceAdd, Nat.reduceMul, Int.reduceToNat, Int.reduceLE, Int.reduceLT, Int.reduceEq, Int.reduceNe, Nat.reduceLeDiff, Int.reducePow, Nat.reducePow, Nat.reduceLT, Nat.reduceSub, Nat.reduceMod, Nat.reduceDiv, T.ag_22, T.ag_25, T.ag_28, T.ag_3, T.ag_31, T.ag_5, T.ag_9, T.eb_22, T.es_28, T.ez_22, T.fo_108_0, T.fo_108_1, T.fo_31_0, T.fo_31_1, T.fo_31_2, T.fo_31_3, T.fo_31_4, T.fo_31_5, T.fo_31_9, T.gf_60, T.gf_61, T.gf_62, T.gf_63, T.gf_64, T.ib_25, T.ib_3, T.ib_5, T.ii_22, T.ii_28, T.ii_3, T.ii_5, T.ip_25, T.ip_3, T.ip_5, T.pl_108, T.pl_31, T.s8_22, T.s8_28, T.s8_3, T.s8_5, T.sl_22, T.sl_28, T.sl_3, T.sl_5, T.st_22, T.st_28, T.st_3, T.st_5, T.un_22, T.un_28, T.un_3, T.un_5, T.zo_108, T.zo_31, m1]
    refine ⟨H1.next, o', ⟨rfl, rfl, rfl, rfl, rfl, rfl, rfl⟩, ?_⟩
    have hk := kindv b
    simp only [IntKind.bits] at hk ⊢
    have hn : H.next ≤ H1.next := w2.1
    erw [hk]
    exact GL.made i0 r0 rn (by simpa using n3) (fun x => by simp [x] at n2) (w1.alloc _) (by simp [Heap.alloc]; omega) hn (by simp [Heap.alloc]) _
  · subst hv
    have m1 : (H.next = s) = False := eq_false (by have := i0.sn; omega)
    have k1 := w2.2 H.next (by simp [Heap.alloc, Heap.mask]) (by have := i0.sn; omega)
    simp only [get_alloc, next_mask, if_pos] at k1
    have hn : H.next + 1 ≤ H1.next := w2.1
    simp (config := { dsimp := false }) only [go_sem, reduceIte, Nat.reduceEqDiff, reduceCtorEq, Nat.reduceAdd, Nat.reduceMul, Int.reduceToNat, Int.reduceLE, Int.reduceLT, Int.reduceEq, Int.reduceNe, Nat.reduceLeDiff, Int.reducePow, Nat.reducePow, Nat.reduceLT, Nat.reduceSub, Nat.reduceMod, Nat.reduceDiv, T.ag_22, T.ag_25, T.ag_28, T.ag_3, T.ag_31, T.ag_5, T.ag_9, T.eb_22, T.es_28, T.ez_22, T.fo_108_0, T.fo_108_1, T.fo_31_0, T.fo_31_1, T.fo_31_2, T.fo_31_3, T.fo_31_4, T.fo_31_5, T.fo_31_9, T.gf_60, T.gf_61, T.gf_62, T.gf_63, T.gf_64, T.ib_25, T.ib_3, T.ib_5, T.ii_22, T.ii_28, T.ii_3, T.ii_5, T.ip_25, T.ip_3, T.ip_5, T.pl_108, T.pl_31, T.s8_22, T.s8_28, T.s8_3, T.s8_5, T.sl_22, T.sl_28, T.sl_3, T.sl_5, T.st_22, T.st_28, T.st_3, T.st_5, T.un_22, T.un_28, T.un_3, T.un_5, T.zo_108, T.zo_31, m1, k1]
    refine ⟨H.next, o', ⟨rfl, rfl, rfl, rfl, rfl, rfl, rfl⟩, ?_⟩
    have hk := kindv b
    simp only [IntKind.bits] at hk ⊢
    erw [hk]
    exact GL.made i0 r0 rn (by simpa using n3) (fun x => by simp [x] at n2) w1 (by omega) (Nat.le_refl _) (by omega) _
end Ph
