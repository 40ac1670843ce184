import Derived.Test.YtcbgjjbbeeoekaaDoorPhMem
set_option linter.unusedVariables false
/-! Maps whose keys are numbers, texts or truths. -/
namespace Ph
open Go
section
variable {P : Program} {ρ : Ren} {h : Heap} {W : World}
theorem mapTy_inv {t : Nat} {ke : Nat × Nat} (hm : mapTy P t = some ke) : P.underlying t = some (.map ke.1 ke.2) := by
  unfold mapTy at hm; split at hm
  · rename_i k e hu; cases hm; exact hu
  · cases hm
def wideK : Value → Bool | .agg _ => true | _ => false
theorem keyTy_inv {kt : Nat} {k : Value} (hk : keyTy P kt k = true) : plain k = true ∧ (∀ (e : Bool) (W : World), (Instr.checkKey e 10000 kt k).run P W = .ok () W) ∧
    ((∃ d, P.underlying kt = some d ∧ ∀ (x : Value) (b : Bool), sameK k x = some b → Instr.sameNow d k x = some b) ∨ ∃ cs ts, k = .agg cs ∧ flatTy P kt = some ts ∧ fitsL P ts cs.toList = true) := by
  unfold keyTy at hk
  split at hk
  · rename_i kd j a hu
    refine ⟨rfl, fun e W => run_check_c (by simp [cellFit, hu]) e 9999, .inl ⟨_, hu, fun x b hs => ?_⟩⟩
    cases x with
    | int l c =>
      simp only [sameK] at hs
      split at hs
      · rename_i e; cases hs; simp [Instr.sameNow, e, int_beq]
      · cases hs
    | _ => cases hs
  · rename_i s hu
    refine ⟨rfl, fun e W => run_check_c (by simp [cellFit, hu]) e 9999, .inl ⟨_, hu, fun x b hs => ?_⟩⟩
    cases x with
    | string c =>
      simp only [sameK] at hs; cases hs
      simp only [Instr.sameNow, Option.some.injEq]
      exact bytes_beq s c
    | _ => cases hs
  · rename_i s hu
    refine ⟨rfl, fun e W => run_check_c (by simp [cellFit, hu]) e 9999, .inl ⟨_, hu, fun x b hs => ?_⟩⟩
    cases x with
    | bool c =>
      simp only [sameK] at hs; cases hs
      simp only [Instr.sameNow, Option.some.injEq]
      rw [Bool.eq_iff_iff]; simp
    | _ => cases hs
  · rename_i cs
    cases ht : flatTy P kt with
    | none => rw [ht] at hk; cases hk
    | some ts =>
      rw [ht] at hk
      simp only at hk
      exact ⟨fits_plainA hk, fun e W => run_check_flat ht hk e, .inr ⟨cs, ts, rfl, rfl, hk⟩⟩
  · cases hk
theorem sameK_eq {k x : Value} (hs : sameK k x = some true) : k = x := by
  unfold sameK at hs
  split at hs
  · split at hs
    · rename_i e; simp at hs; rw [e, hs]
    · cases hs
  · simp at hs; rw [hs]
  · simp at hs; rw [hs]
  · have := sameL_eq hs
    rw [Array.toList_inj.1 this]
  · cases hs
theorem findM_at : ∀ (es : List (Value × Value × Nat)) (k : Value) (n : Nat) (i : Nat) (v : Value), findM k es n = some (some (i, v)) → ∃ j b, i = n + j ∧ es[j]? = some (k, v, b)
  | [], k, n, i, v, hf => by simp [findM] at hf
  | (x, u, b) :: es, k, n, i, v, hf => by
    unfold findM at hf
    split at hf
    · rename_i hs
      cases hf
      exact ⟨0, b, rfl, by rw [sameK_eq hs]; rfl⟩
    · obtain ⟨j, b', h1, h2⟩ := findM_at es k (n + 1) i v hf
      exact ⟨j + 1, b', by omega, by simpa using h2⟩
    · cases hf
theorem findM_now {d : TypeDesc} {k : Value} (hd : ∀ (x : Value) (b : Bool), sameK k x = some b → Instr.sameNow d k x = some b) :
    ∀ (es : List (Value × Value × Nat)) (en : List MapEntry) (n : Nat) (f : Option (Nat × Value)), en.length = es.length →
      (∀ (i : Nat) (x v : Value) (b : Nat) (e : MapEntry), es[i]? = some (x, v, b) → en[i]? = some e → plain x = true ∧ e.key = x ∧ VRel ρ v e.val ∧ e.born = b) →
      findM k es n = some f → ∃ f', Instr.findNow d k en n = some f' ∧ match (generalizing := false) f with | none => f' = none | some (i, v) => ∃ v', f' = some (i, v') ∧ VRel ρ v v'
  | [], [], n, f, _, _, hf => by
    simp [findM] at hf; subst hf
    exact ⟨none, rfl, rfl⟩
  | (x, v, b) :: es, e :: en, n, f, hl, hr, hf => by
    have h0 := hr 0 x v b e rfl rfl
    unfold findM at hf
    unfold Instr.findNow
    rw [h0.2.1]
    split at hf
    · rename_i hs
      cases hf
      rw [hd x true hs]
      exact ⟨_, rfl, _, rfl, h0.2.2.1⟩
    · rename_i hs
      rw [hd x false hs]
      exact findM_now hd es en (n + 1) f (by simpa using hl) (fun i x v b e h1 h2 => hr (i + 1) x v b e (by simpa using h1) (by simpa using h2)) hf
    · cases hf
theorem zeroVal_inv {t : Nat} {z : Value} (h : zeroVal P t = some z) : ∃ i, P.info? t = some i ∧ i.zero = some z ∧ plain z = true := by
  unfold zeroVal at h
  cases hi : P.info? t with
  | none => rw [hi] at h; cases h
  | some i =>
    rw [hi] at h
    simp only [Option.bind_some] at h
    cases hz : i.zero with
    | none => rw [hz] at h; cases h
    | some v =>
      rw [hz] at h
      simp only at h
      split at h
      · cases h; exact ⟨i, rfl, hz, by assumption⟩
      · cases h
theorem run_findKey {kt : Nat} {d : TypeDesc} {k : Value} {es : List MapEntry} {f : Option (Nat × Value)} (hu : P.underlying kt = some d) (hf : Instr.findNow d k es 0 = some f) (W : World) : (Instr.findKey kt k es).run P W = .ok f W := by
  simp [Instr.findKey, run_underlying hu, hf]
theorem map_at {id : Nat} {c : CB} {es : List (Value × Value × Nat)} {cl : Nat} {o : Own} (hC : Conc ρ h W) (hc : ρ id = some c) (hg : h.get id = .live (.map es cl o)) :
    ∃ en, W.heap[c.blk]? = some (.map en cl) ∧ en.size = es.length ∧ ∀ (i : Nat) (k v : Value) (b : Nat) (e : MapEntry), es[i]? = some (k, v, b) → en[i]? = some e → plain k = true ∧ e.key = k ∧ VRel ρ v e.val ∧ e.born = b := by
  have := hC.at_ _ _ _ hc hg
  exact this
theorem run_getM {r : Nat} {en : Array MapEntry} {cl : Nat} (hw : W.heap[r]? = some (.map en cl)) : (getObj r).run P W = .ok (.map en cl) W := by simp [getObj, Sem.run, hw]
theorem run_setM {r : Nat} {en : Array MapEntry} {cl : Nat} (o : Obj) (hw : W.heap[r]? = some (.map en cl)) : (setObj r o).run P W = .ok () { W with heap := W.heap.setIfInBounds r o } := by simp [setObj, Sem.run, hw]
theorem findAsking_run {kt : Nat} {ts : List Nat} {cs : Array Value} (ht : flatTy P kt = some ts) (hf : fitsL P ts cs.toList = true) :
    ∀ (es : List (Value × Value × Nat)) (en : List MapEntry) (n : Nat) (f : Option (Nat × Value)), en.length = es.length →
      (∀ (i : Nat) (x v : Value) (b : Nat) (e : MapEntry), es[i]? = some (x, v, b) → en[i]? = some e → plain x = true ∧ e.key = x ∧ VRel ρ v e.val ∧ e.born = b) →
      findM (.agg cs) es n = some f → ∃ f', (∀ W : World, (Instr.findAsking kt (.agg cs) en n).run P W = .ok f' W) ∧ match (generalizing := false) f with | none => f' = none | some (i, v) => ∃ v', f' = some (i, v') ∧ VRel ρ v v'
  | [], [], n, f, _, _, hm => by
    simp [findM] at hm; subst hm
    exact ⟨none, fun W => by simp [Instr.findAsking], rfl⟩
  | (x, v, b) :: es, e :: en, n, f, hl, hr, hm => by
    have h0 := hr 0 x v b e rfl rfl
    unfold findM at hm
    cases x with
    | agg c2 =>
      simp only [sameK] at hm
      have hq := fun (W : World) (q : Bool) (hs : sameL cs.toList c2.toList = some q) => run_equal_flat (W := W) ht hf hs
      split at hm
      · rename_i hs
        cases hm
        exact ⟨some (n, e.val), fun W => by simp [Instr.findAsking, h0.2.1, hq W true hs], _, rfl, h0.2.2.1⟩
      · rename_i hs
        obtain ⟨f', g1, g2⟩ := findAsking_run ht hf es en (n + 1) f (by simpa using hl) (fun i x v b e h1 h2 => hr (i + 1) x v b e (by simpa using h1) (by simpa using h2)) hm
        exact ⟨f', fun W => by simp [Instr.findAsking, h0.2.1, hq W false hs, g1 W], g2⟩
      · cases hm
    | _ => simp [sameK] at hm
theorem find_run {kt : Nat} {k : Value} (hk : keyTy P kt k = true) {es : List (Value × Value × Nat)} {en : List MapEntry} {f : Option (Nat × Value)} (hl : en.length = es.length)
    (hr : ∀ (i : Nat) (x v : Value) (b : Nat) (e : MapEntry), es[i]? = some (x, v, b) → en[i]? = some e → plain x = true ∧ e.key = x ∧ VRel ρ v e.val ∧ e.born = b) (hf : findM k es 0 = some f) :
    ∃ f', (∀ W : World, (Instr.findKey kt k en).run P W = .ok f' W) ∧ match (generalizing := false) f with | none => f' = none | some (i, v) => ∃ v', f' = some (i, v') ∧ VRel ρ v v' := by
  obtain ⟨_, _, ⟨d, hd, hnow⟩ | ⟨cs, ts, rfl, ht, hfit⟩⟩ := keyTy_inv hk
  · obtain ⟨f', g1, g2⟩ := findM_now (ρ := ρ) hnow es en 0 f hl hr hf
    exact ⟨f', fun W => run_findKey hd g1 W, g2⟩
  · obtain ⟨f', g1, g2⟩ := findAsking_run (ρ := ρ) ht hfit es en 0 f hl hr hf
    refine ⟨f', fun W => ?_, g2⟩
    have hu : ∃ d, P.underlying kt = some d := by
      obtain ⟨_, _, ⟨fs, hu, _⟩ | ⟨n, e, i, hu, _⟩⟩ := flat_inv ht
      · exact ⟨_, hu⟩
      · exact ⟨_, hu⟩
    obtain ⟨d, hd⟩ := hu
    cases en with
    | nil =>
      have h1 := g1 W
      simp [Instr.findAsking] at h1
      rw [run_findKey hd (show Instr.findNow d (.agg cs) [] 0 = some none from rfl) W, h1]
    | cons e en =>
      have hn : Instr.findNow d (.agg cs) (e :: en) 0 = none := by
        unfold Instr.findNow
        have : Instr.sameNow d (.agg cs) e.key = none := by unfold Instr.sameNow; cases d <;> rfl
        rw [this]
      simp [Instr.findKey, run_underlying hd, hn, g1 W]
theorem key_same {kt : Nat} {k k' : Value} (h1 : keyTy P kt k = true) (hk : VRel ρ k k') : k' = k ∧ Instr.sameBits 10000 k k = true := by
  cases k with
  | int a b => exact ⟨hk.int_inv, by simp [Instr.sameBits]⟩
  | string s => exact ⟨hk.string_inv, by simp [Instr.sameBits, bytes_beq]⟩
  | bool b => exact ⟨hk.bool_inv, by simp [Instr.sameBits]⟩
  | agg cs =>
    obtain ⟨hp, _⟩ := keyTy_inv h1
    have hx : ∃ ts, flatTy P kt = some ts ∧ fitsL P ts cs.toList = true := by
      unfold keyTy at h1
      split at h1
      · rename_i e; cases e
      · rename_i e; cases e
      · rename_i e; cases e
      · rename_i e; cases e
        cases ht : flatTy P kt with
        | none => rw [ht] at h1; cases h1
        | some ts => rw [ht] at h1; exact ⟨ts, rfl, h1⟩
      · cases h1
    obtain ⟨ts, _, hfit⟩ := hx
    exact ⟨plainCells_eq hp hk, bits_flat hfit⟩
  | _ => simp [keyTy] at h1
theorem lookup_sound {t : Nat} {x x' k k' : Value} {ok : Bool} {K : Value → Prop} (hC : Conc ρ h W) (hx : VRel ρ x x') (hk : VRel ρ k k') (hs : @lookupH P t x k ok h ⟨K⟩) :
    ∃ v v', (∀ W' : World, (∀ id c, x = .map (some id) → ρ id = some c → W'.heap[c.blk]? = W.heap[c.blk]?) → (Instr.lookup t x' k' ok).run P W' = .ok v' W') ∧ VRel ρ v v' ∧ K v := by
  unfold lookupH at hs
  cases hm : mapTy P t with
  | none => rw [hm] at hs; exact hs.elim
  | some ke =>
    rw [hm] at hs
    obtain ⟨h1, hs⟩ := hs
    have hu := mapTy_inv hm
    obtain ⟨hpk, hchk, _⟩ := keyTy_inv h1
    obtain ⟨rfl, _⟩ := key_same h1 hk
    cases hz : zeroVal P ke.2 with
    | none => rw [hz] at hs; exact hs.elim
    | some z =>
      rw [hz] at hs
      obtain ⟨iz, hi, hzz, hzp⟩ := zeroVal_inv hz
      have hrz : ∀ W : World, (zeroValue ke.2).run P W = .ok z W := fun W => by simp [zeroValue, typeInfo, hi, hzz]
      have hvz : VRel ρ z z := .same _ hzp
      have hzr : VRel ρ (if ok then .tuple #[z, .bool false] else z) (if ok then .tuple #[z, .bool false] else z) := by
        cases ok with
        | false => exact hvz
        | true =>
          refine .tuple _ _ rfl fun i a b ha hb => ?_
          rw [ha] at hb; cases hb
          match i, ha with
          | 0, ha => cases ha; exact hvz
          | 1, ha => cases ha; exact .same _ rfl
          | i + 2, ha => simp at ha
      simp only [onSome] at hs
      split at hs
      · have hx0 := hx.nilmap_inv
        subst hx0
        refine ⟨_, _, fun W' _ => ?_, hzr, hs⟩
        obtain ⟨f0, e0, rfl⟩ := find_run (ρ := ρ) h1 (es := []) (en := []) (f := none) rfl (by simp) rfl
        simp [Instr.lookup, run_underlying hu, hchk, e0, hrz]
      · rename_i id
        obtain ⟨c, hc, rfl⟩ := hx.map_inv
        cases hg : h.get id with
        | free => simp [onMap, hg] at hs
        | dead => simp [onMap, hg] at hs
        | live b =>
          cases b with
          | cells _ _ => simp [onMap, hg] at hs
          | iter _ _ _ _ _ => simp [onMap, hg] at hs
          | loop _ _ => simp [onMap, hg] at hs
          | map es cl o =>
            simp only [onMap, hg] at hs
            cases hf : findM k' es 0 with
            | none => rw [hf] at hs; exact hs.elim
            | some f =>
              rw [hf] at hs
              obtain ⟨en, w1, w2, w3⟩ := map_at hC hc hg
              obtain ⟨f', hrun, g2⟩ := find_run (ρ := ρ) h1 (es := es) (en := en.toList) (by simpa using w2) (fun i x v b e a1 a2 => w3 i x v b e a1 (by simpa using a2)) hf
              cases f with
              | none =>
                subst g2
                refine ⟨_, _, fun W' hW => ?_, hzr, hs⟩
                simp [Instr.lookup, run_underlying hu, run_getM ((hW id c rfl hc).trans w1), hchk, hrun, hrz]
              | some p =>
                obtain ⟨i, v⟩ := p
                obtain ⟨v', rfl, hv⟩ := g2
                refine ⟨if ok then .tuple #[v, .bool true] else v, if ok then .tuple #[v', .bool true] else v', fun W' hW => ?_, ?_, hs⟩
                · simp [Instr.lookup, run_underlying hu, run_getM ((hW id c rfl hc).trans w1), hchk, hrun]
                · cases ok with
                  | false => exact hv
                  | true =>
                    refine .tuple _ _ rfl fun i a b ha hb => ?_
                    match i, ha, hb with
                    | 0, ha, hb => cases ha; cases hb; exact hv
                    | 1, ha, hb => cases ha; cases hb; exact .same _ rfl
                    | i + 2, ha, hb => simp at ha
      · exact hs.elim
/-- what stands in a map, entry by entry -/
def MR (ρ : Ren) (es : List (Value × Value × Nat)) (en : List MapEntry) : Prop := en.length = es.length ∧
  ∀ (i : Nat) (k v : Value) (b : Nat) (e : MapEntry), es[i]? = some (k, v, b) → en[i]? = some e → plain k = true ∧ e.key = k ∧ VRel ρ v e.val ∧ e.born = b
theorem MR.snoc {es : List (Value × Value × Nat)} {en : List MapEntry} (hm : MR ρ es en) {k v v' : Value} {b : Nat} (hk : plain k = true) (hv : VRel ρ v v') : MR ρ (es ++ [(k, v, b)]) (en ++ [⟨k, v', b⟩]) := by
  refine ⟨by simp [hm.1], fun i k1 v1 b1 e1 h1 h2 => ?_⟩
  by_cases hi : i < es.length
  · rw [List.getElem?_append_left hi] at h1
    rw [List.getElem?_append_left (by rw [hm.1]; exact hi)] at h2
    exact hm.2 i k1 v1 b1 e1 h1 h2
  · rw [List.getElem?_append_right (by omega)] at h1
    rw [List.getElem?_append_right (by rw [hm.1]; omega), hm.1] at h2
    have h0 : i - es.length = 0 := by
      have := (List.getElem?_eq_some_iff.1 h1).1; simpa using this
    rw [h0] at h1 h2
    simp at h1 h2
    obtain ⟨rfl, rfl, rfl⟩ := h1
    subst h2
    exact ⟨hk, rfl, hv, rfl⟩
theorem MR.mod {es : List (Value × Value × Nat)} {en : List MapEntry} (hm : MR ρ es en) {k v v' : Value} {j : Nat} (hk : plain k = true) (hv : VRel ρ v v') : MR ρ (es.modify j fun e => (k, v, e.2.2)) (en.modify j fun e => { e with key := k, val := v' }) := by
  refine ⟨by simp [hm.1], fun i k1 v1 b1 e1 h1 h2 => ?_⟩
  rw [List.getElem?_modify] at h1 h2
  by_cases hi : j = i
  · subst hi
    simp only [if_true] at h1 h2
    cases he : es[j]? with
    | none => rw [he] at h1; simp at h1
    | some x =>
      obtain ⟨k0, v0, b0⟩ := x
      cases hn : en[j]? with
      | none => rw [hn] at h2; simp at h2
      | some e0 =>
        rw [he] at h1
        rw [hn] at h2
        simp at h1 h2
        obtain ⟨rfl, rfl, rfl⟩ := h1
        subst h2
        exact ⟨hk, rfl, hv, (hm.2 j k0 v0 b0 e0 he hn).2.2.2⟩
  · have a1 : es[i]? = some (k1, v1, b1) := by cases he : es[i]? <;> simp_all
    have a2 : en[i]? = some e1 := by cases he : en[i]? <;> simp_all
    exact hm.2 i k1 v1 b1 e1 a1 a2
theorem MR.erase {es : List (Value × Value × Nat)} {en : List MapEntry} (hm : MR ρ es en) (j : Nat) : MR ρ (es.eraseIdx j) (en.eraseIdx j) := by
  refine ⟨by rw [List.length_eraseIdx, List.length_eraseIdx, hm.1], fun i k1 v1 b1 e1 h1 h2 => ?_⟩
  rw [List.getElem?_eraseIdx] at h1 h2
  split at h1
  · rename_i hi
    rw [if_pos hi] at h2
    exact hm.2 i k1 v1 b1 e1 h1 h2
  · rename_i hi
    rw [if_neg hi] at h2
    exact hm.2 (i + 1) k1 v1 b1 e1 h1 h2
/-- a map of one's own is written anew -/
theorem map_turn {id : Nat} {c : CB} {es es' : List (Value × Value × Nat)} {cl cl' : Nat} (hC : Conc ρ h W) (hc : ρ id = some c) (hg : h.get id = .live (.map es cl .own)) {en' : Array MapEntry} (hm : MR ρ es' en'.toList) (lim : Nat) :
    Conc ρ (h.put id (.live (.map es' cl' .own))) { W with heap := W.heap.setIfInBounds c.blk (.map en' cl') } ∧ Frame lim ρ h W ρ (h.put id (.live (.map es' cl' .own))) { W with heap := W.heap.setIfInBounds c.blk (.map en' cl') } := by
  obtain ⟨en, w1, w2, w3⟩ := map_at hC hc hg
  have hlt : c.blk < W.heap.size := (Array.getElem?_eq_some_iff.1 w1).1
  refine hC.turn (W' := { W with heap := W.heap.setIfInBounds c.blk (.map en' cl') }) id c hc ⟨_, hg, rfl⟩ (.map es' cl' .own) (fun k hk => ?_) (by simp) rfl rfl rfl (Nat.le_refl _) ?_ lim
  · exact Array.getElem?_setIfInBounds_ne (fun e => hk e.symm)
  · exact ⟨en', Array.getElem?_setIfInBounds_self_of_lt hlt, by simpa using hm.1, fun i k v b e h1 h2 => hm.2 i k v b e h1 (by simpa using h2)⟩
theorem update_sound {t : Nat} {x x' k k' v v' : Value} {K : Heap → Prop} (hC : Conc ρ h W) (hx : VRel ρ x x') (hk : VRel ρ k k') (hv : VRel ρ v v') (hs : @updateH P t x k v h ⟨K⟩) :
    ∃ W' h', (Instr.mapUpdate t x' k' v').run P W = .ok () W' ∧ Conc ρ h' W' ∧ Frame h.next ρ h W ρ h' W' ∧ K h' := by
  unfold updateH at hs
  cases hm : mapTy P t with
  | none => rw [hm] at hs; exact hs.elim
  | some ke =>
    rw [hm] at hs
    obtain ⟨h1, hs⟩ := hs
    have hu := mapTy_inv hm
    obtain ⟨hpk, hchk, _⟩ := keyTy_inv h1
    obtain ⟨rfl, hbits⟩ := key_same h1 hk
    dsimp only at hs
    split at hs
    · rename_i id
      obtain ⟨c, hc, rfl⟩ := hx.map_inv
      cases hg : h.get id with
      | free => simp [onMap, hg] at hs
      | dead => simp [onMap, hg] at hs
      | live b =>
        cases b with
        | cells _ _ => simp [onMap, hg] at hs
        | iter _ _ _ _ _ => simp [onMap, hg] at hs
        | loop _ _ => simp [onMap, hg] at hs
        | map es cl o =>
          simp only [onMap, hg] at hs
          obtain ⟨rfl, hs⟩ := hs
          cases hf : findM k' es 0 with
          | none => rw [hf] at hs; exact hs.elim
          | some f =>
            rw [hf] at hs
            obtain ⟨en, w1, w2, w3⟩ := map_at hC hc hg
            have hMR : MR ρ es en.toList := ⟨by simpa using w2, fun i x v b e a1 a2 => w3 i x v b e a1 (by simpa using a2)⟩
            obtain ⟨f', hrun0, g2⟩ := find_run (ρ := ρ) h1 (es := es) (en := en.toList) hMR.1 hMR.2 hf
            have hrun := hrun0 W
            cases f with
            | none =>
              subst g2
              obtain ⟨t1, t2⟩ := map_turn (cl' := cl + 1) (en' := en.push ⟨k', v', cl⟩) hC hc hg (by simpa using hMR.snoc (b := cl) hpk hv) h.next
              refine ⟨_, _, ?_, t1, t2, hs⟩
              simp [Instr.mapUpdate, run_underlying hu, run_getM w1, hchk, hrun, run_setM _ w1]
            | some p =>
              obtain ⟨i, u⟩ := p
              obtain ⟨u', rfl, _⟩ := g2
              obtain ⟨j, b, e1, e2⟩ := findM_at es k' 0 i u hf
              obtain rfl : i = j := by omega
              have hil : i < en.size := by rw [w2]; exact (List.getElem?_eq_some_iff.1 e2).1
              have he := w3 i _ _ _ en[i] e2 (Array.getElem?_eq_getElem hil)
              obtain ⟨t1, t2⟩ := map_turn (cl' := cl) (en' := en.modify i fun e => { e with key := k', val := v' }) hC hc hg (by simpa using hMR.mod (j := i) hpk hv) h.next
              refine ⟨_, _, ?_, t1, t2, hs⟩
              have hks : (Instr.keyThatStays (((en[i]?).map (·.key)).getD k') k').run P W = .ok k' W := by
                rw [Array.getElem?_eq_getElem hil]
                simp only [Option.map_some, Option.getD_some, he.2.1]
                simp [Instr.keyThatStays, hbits]
              simp [Instr.mapUpdate, run_underlying hu, run_getM w1, hchk, hrun, hks, run_setM _ w1]
    · exact hs.elim
theorem delete_sound {ts : Array TypeId} {ty : TypeId} {x x' k k' : Value} {K : Heap → Prop} (hC : Conc ρ h W) (hx : VRel ρ x x') (hk : VRel ρ k k') (hs : @deleteH P ts[0]? x k h ⟨K⟩) :
    ∃ W' h', (Builtin.delete_ ts ty #[x', k']).run P W = .ok (.tuple #[]) W' ∧ Conc ρ h' W' ∧ Frame h.next ρ h W ρ h' W' ∧ K h' := by
  unfold deleteH at hs
  cases hts : ts[0]? with
  | none => rw [hts] at hs; exact hs.elim
  | some t =>
  rw [hts] at hs
  simp only [onSome] at hs
  cases hm : mapTy P t with
  | none => rw [hm] at hs; exact hs.elim
  | some ke =>
    rw [hm] at hs
    obtain ⟨h1, hs⟩ := hs
    have hu := mapTy_inv hm
    obtain ⟨hpk, hchk, _⟩ := keyTy_inv h1
    obtain ⟨rfl, hbits⟩ := key_same h1 hk
    dsimp only at hs
    split at hs
    · have hx0 := hx.nilmap_inv
      subst hx0
      exact ⟨W, h, by simp [Builtin.delete_, hts, run_underlying hu, hchk], hC, Frame.refl _ _ _ _, hs⟩
    · rename_i id
      obtain ⟨c, hc, rfl⟩ := hx.map_inv
      cases hg : h.get id with
      | free => simp [onMap, hg] at hs
      | dead => simp [onMap, hg] at hs
      | live b =>
        cases b with
        | cells _ _ => simp [onMap, hg] at hs
        | iter _ _ _ _ _ => simp [onMap, hg] at hs
        | loop _ _ => simp [onMap, hg] at hs
        | map es cl o =>
          simp only [onMap, hg] at hs
          obtain ⟨rfl, hs⟩ := hs
          cases hf : findM k' es 0 with
          | none => rw [hf] at hs; exact hs.elim
          | some f =>
            rw [hf] at hs
            obtain ⟨en, w1, w2, w3⟩ := map_at hC hc hg
            have hMR : MR ρ es en.toList := ⟨by simpa using w2, fun i x v b e a1 a2 => w3 i x v b e a1 (by simpa using a2)⟩
            obtain ⟨f', hrun0, g2⟩ := find_run (ρ := ρ) h1 (es := es) (en := en.toList) hMR.1 hMR.2 hf
            have hrun := hrun0 W
            cases f with
            | none =>
              subst g2
              obtain ⟨t1, t2⟩ := map_turn (cl' := cl) (en' := en) hC hc hg hMR h.next
              refine ⟨_, _, ?_, t1, t2, hs⟩
              simp [Builtin.delete_, hts, run_underlying hu, run_getM w1, hchk, hrun, run_setM _ w1]
            | some p =>
              obtain ⟨i, u⟩ := p
              obtain ⟨u', rfl, _⟩ := g2
              obtain ⟨t1, t2⟩ := map_turn (cl' := cl) (en' := en.eraseIdxIfInBounds i) hC hc hg (by simpa using hMR.erase i) h.next
              refine ⟨_, _, ?_, t1, t2, hs⟩
              simp [Builtin.delete_, hts, run_underlying hu, run_getM w1, hchk, hrun, run_setM _ w1]
    · exact hs.elim
theorem lenM_sound {t : Nat} {ts : Array TypeId} {ty : TypeId} {x' : Value} {id : Nat} {K : Value → Prop} {ke : Nat × Nat} (hC : Conc ρ h W) (hx : VRel ρ (.map (some id)) x') (hts : ts[0]? = some t) (hm : mapTy P t = some ke) (hs : @onMap (h.get id) ⟨fun es _ _ => K (.int .i64 es.length)⟩) :
    ∃ v, (∀ W' : World, (∀ c, ρ id = some c → W'.heap[c.blk]? = W.heap[c.blk]?) → (Builtin.len_ ts ty #[x']).run P W' = .ok v W') ∧ VRel ρ v v ∧ K v := by
  have hu := mapTy_inv hm
  obtain ⟨c, hc, rfl⟩ := hx.map_inv
  cases hg : h.get id with
  | free => simp [onMap, hg] at hs
  | dead => simp [onMap, hg] at hs
  | live b =>
    cases b with
    | cells _ _ => simp [onMap, hg] at hs
    | iter _ _ _ _ _ => simp [onMap, hg] at hs
    | loop _ _ => simp [onMap, hg] at hs
    | map es cl o =>
      simp only [onMap, hg] at hs
      obtain ⟨en, w1, w2, w3⟩ := map_at hC hc hg
      exact ⟨_, fun W' hW => by simp [Builtin.len_, hts, run_underlying hu, run_getM ((hW c hc).trans w1), w2]; rfl, .same _ rfl, hs⟩
theorem lenM_nil {t : Nat} {ts : Array TypeId} {ty : TypeId} {ke : Nat × Nat} (hts : ts[0]? = some t) (hm : mapTy P t = some ke) (W : World) : (Builtin.len_ ts ty #[.map none]).run P W = .ok (.int .i64 0) W := by
  simp [Builtin.len_, hts, run_underlying (mapTy_inv hm)]
  rfl
end
end Ph
