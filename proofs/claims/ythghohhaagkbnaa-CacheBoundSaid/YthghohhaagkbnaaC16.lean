import Derived.Test.YthghohhaagkbnaaC15
import Derived.Test.YthghohhaagkbnaaPhRow
set_option maxRecDepth 100000
set_option maxHeartbeats 4000000
set_option linter.unusedSimpArgs false
set_option linter.unusedVariables false
namespace Ph
open Go Go.Proofs
/-! Both caches beside each other. -/
def intVals (c : Ca) : Prop := ∀ x ∈ c.l, isIntV x.val
structure TT (h : Heap) (p id m : Nat) (D : List Nat) (v : Value) (c : Ca) : Prop where
  ca : CaR isStrV h p id c
  rf : RfR h m D v c
  ok : CaOk c
  str : strKeys c
  int : intVals c
  mp : m ≠ p
  mi : m ≠ id
  pD : p ∉ D
  iD : id ∉ D
theorem TT.upd {h h' : Heap} {p id m : Nat} {D : List Nat} {v : Value} {c : Ca} (t : TT h p id m D v c) (hu : Upd h h' []) : TT h' p id m D v c :=
  ⟨t.ca.upd hu (by simp) (by simp), t.rf.upd hu (by simp) (by simp), t.ok, t.str, t.int, t.mp, t.mi, t.pD, t.iD⟩
theorem CaR.mask {kd : Value → Prop} {h : Heap} {p id : Nat} {c : Ca} {wr : List Nat} (hC : CaR kd h p id c) (hp : p ∈ wr) (hi : id ∈ wr) : CaR kd (h.mask wr) p id c :=
  ⟨hC.lt, hC.ne, by rw [get_mask, if_pos hp]; exact hC.at_, hC.map.imp fun cl hM => ⟨hM.lt, by rw [get_mask, if_pos hi]; exact hM.at_, hM.keys, hM.one, hM.born, hM.clock⟩⟩
theorem OwnRow.maskW {α : Type} {E : Enc α} {h : Heap} {v : Value} {D wr : List Nat} {l : List α} (hO : OwnRow E h v D l) (hD : ∀ d ∈ D, d ∈ wr) : OwnRow E (h.mask wr) v D l :=
  hO.keep (Nat.le_refl _) fun d hd => by rw [get_mask, if_pos (hD d hd)]
theorem RfR.mask {h : Heap} {m : Nat} {D wr : List Nat} {v : Value} {c : Ca} (hC : RfR h m D v c) (hm : m ∈ wr) (hD : ∀ d ∈ D, d ∈ wr) : RfR (h.mask wr) m D v c :=
  ⟨hC.lt, hC.ne, by rw [get_mask, if_pos hm]; exact hC.at_, hC.row.maskW hD, hC.sm⟩
theorem CaR.unmask {kd : Value → Prop} {h H : Heap} {p id : Nat} {c : Ca} {wr : List Nat} (hC : CaR kd H p id c) (hp : p ∈ wr) (hi : id ∈ wr) : CaR kd (h.unmask wr H) p id c :=
  ⟨hC.lt, hC.ne, by rw [get_unmask, if_neg (fun e => e.2 hp)]; exact hC.at_, hC.map.imp fun cl hM => ⟨hM.lt, by rw [get_unmask, if_neg (fun e => e.2 hi)]; exact hM.at_, hM.keys, hM.one, hM.born, hM.clock⟩⟩
theorem RfR.unmask {h H : Heap} {m : Nat} {D wr : List Nat} {v : Value} {c : Ca} (hC : RfR H m D v c) (hm : m ∈ wr) (hD : ∀ d ∈ D, d ∈ wr ∨ h.next ≤ d) : RfR (h.unmask wr H) m D v c :=
  ⟨hC.lt, hC.ne, by rw [get_unmask, if_neg (fun e => e.2 hm)]; exact hC.at_, hC.row.keep (Nat.le_refl _) fun d hd => by
    rw [get_unmask, if_neg]
    rintro ⟨e1, e2⟩
    rcases hD d hd with h1 | h1
    · exact e2 h1
    · omega, hC.sm⟩
/-- what a Put does, whatever it is handed -/
def putBad (keep at_ : Int) : Prop := keep < 0 ∨ farC < keep ∨ at_ < 0 ∨ farC < at_
instance (keep at_ : Int) : Decidable (putBad keep at_) := inferInstanceAs (Decidable (_ ∨ _))
theorem strKeys.put {c : Ca} (h : strKeys c) {k v : Value} (hk : isStrV k) (keep at_ : Int) (b : Nat) (one : k.oneCell' = true ∧ v.oneCell' = true) : strKeys (putS c k v keep at_ b one) := by
  have h2 := (h.time at_).without k
  unfold putS
  generalize Ph.without (timeC c at_) k = c2 at *
  dsimp only
  split
  · exact h2
  · intro x hx
    rcases List.mem_append.1 hx with h3 | h3
    · refine h2 x ?_
      split at h3
      · exact (List.mem_filter.1 h3).1
      · exact h3
    · rw [List.mem_singleton.1 h3]; exact hk
theorem intVals.time {c : Ca} (h : intVals c) (at_ : Int) : intVals (timeC c at_) := fun x hx => h x (List.mem_filter.1 hx).1
theorem intVals.without {c : Ca} (h : intVals c) (k : Value) : intVals (without c k) := fun x hx => h x (List.mem_filter.1 hx).1
theorem intVals.put {c : Ca} (h : intVals c) {k v : Value} (hv : isIntV v) (keep at_ : Int) (b : Nat) (one : k.oneCell' = true ∧ v.oneCell' = true) : intVals (putS c k v keep at_ b one) := by
  have h2 := (h.time at_).without k
  unfold putS
  generalize Ph.without (timeC c at_) k = c2 at *
  dsimp only
  split
  · exact h2
  · intro x hx
    rcases List.mem_append.1 hx with h3 | h3
    · refine h2 x ?_
      split at h3
      · exact (List.mem_filter.1 h3).1
      · exact h3
    · rw [List.mem_singleton.1 h3]; exact hv
theorem puts_put (c : Ca) (k v : Value) (keep at_ : Int) (b : Nat) (one : k.oneCell' = true ∧ v.oneCell' = true) : (putS c k v keep at_ b one).puts ≤ c.puts + 1 := by
  unfold putS
  have : (Ph.without (timeC c at_) k).puts = c.puts := rfl
  dsimp only
  split
  · omega
  · simp only; omega
theorem time_idem (c : Ca) (at_ : Int) : timeC (timeC c at_) at_ = timeC c at_ := by
  have e : nowC (timeC c at_) at_ = nowC c at_ := by unfold timeC nowC; simp only; omega
  unfold timeC at *
  simp only at *
  rw [e, List.filter_filter]
  simp only [Bool.and_self]
theorem PutG_ph (h : Heap) (p id : Nat) (c : Ca) (k : List UInt8) (n keep at_ : Int) (hC : CaR isStrV h p id c) (hO : CaOk c) (h5 : c.puts < 4611686018427387904) :
    @CallsH Try.prog 30 #[.pointer (some ⟨p, 0, none⟩), .string (str k), .int .i64 n, .int .i64 keep, .int .i64 at_] h ⟨fun u H => u = .int .i64 (if putBad keep at_ then 1 else 0) ∧ (∃ b, CaR isStrV H p id (if putBad keep at_ then c else putS c (.string (str k)) (.int .i64 n) keep at_ b ⟨rfl, rfl⟩)) ∧ Upd h H [p, id]⟩ := by
  by_cases hb : putBad keep at_
  · refine (PutES_ph h _ _ _ keep at_ (.inr ⟨⟨p, rfl⟩, hb⟩)).mono fun u H ⟨hu, hH⟩ => ?_
    subst hH
    exact ⟨by rw [if_pos hb]; exact hu, ⟨0, by rw [if_pos hb]; exact hC⟩, Upd.refl _ _⟩
  · have hb' := hb
    unfold putBad at hb'
    refine (PutS_ph h p id c _ _ keep at_ ⟨_, rfl⟩ ⟨_, rfl⟩ hC hO (by omega) (by omega) (by omega) (by omega) h5 ⟨rfl, rfl⟩).mono fun u H ⟨hu, ⟨b, hb2⟩, hU⟩ => ?_
    exact ⟨by rw [if_neg hb]; exact hu, ⟨b, by rw [if_neg hb]; exact hb2⟩, hU⟩
theorem RputG_ph (h : Heap) (p : Nat) (D : List Nat) (v : Value) (c : Ca) (k : List UInt8) (n keep at_ : Int) (b : Nat) (hC : RfR h p D v c) (hkd : strKeys c) (hO : CaOk c) :
    @CallsH Try.prog 35 #[.pointer (some ⟨p, 0, none⟩), .string (str k), .int .i64 n, .int .i64 keep, .int .i64 at_] h ⟨fun u H => u = .int .i64 (if putBad keep at_ then 1 else 0) ∧ (∃ D' v', RfR H p D' v' (if putBad keep at_ then c else putS c (.string (str k)) (.int .i64 n) keep at_ b ⟨rfl, rfl⟩) ∧ ∀ d ∈ D', d ∈ D ∨ h.next ≤ d) ∧ Upd h H [p]⟩ := by
  by_cases hb : putBad keep at_
  · refine (RputE_ph h _ _ _ keep at_ hb).mono fun u H ⟨hu, hH⟩ => ?_
    subst hH
    exact ⟨by rw [if_pos hb]; exact hu, ⟨D, v, by rw [if_pos hb]; exact hC, fun d hd => .inl hd⟩, Upd.refl _ _⟩
  · have hb' := hb
    unfold putBad at hb'
    refine (Rput_ph h p D v c k n keep at_ b hC hkd hO (by omega) (by omega) (by omega) (by omega) ⟨rfl, rfl⟩).mono fun u H ⟨hu, ⟨D', v', h1, h2, h3⟩⟩ => ?_
    exact ⟨by rw [if_neg hb]; exact hu, ⟨D', v', by rw [if_neg hb]; exact h1, fun d hd => .inr (h2 d hd)⟩, h3⟩
abbrev TuI := Int × List UInt8 × Int × Int × Int
def tuRd : Rd TuI := Rd.pair (Rd.int .i64) (Rd.pair Rd.str (Rd.pair (Rd.int .i64) (Rd.pair (Rd.int .i64) (Rd.int .i64))))
def tuE : Enc TuI := ⟨5, fun x => [.int .i64 x.1, .string (str x.2.1), .int .i64 x.2.2.1, .int .i64 x.2.2.2.1, .int .i64 x.2.2.2.2], fun _ => rfl, fun _ => rfl⟩
theorem tu_row {h : Heap} {v : Value} {l : List TuI} (hs : SlR tuRd h v l) : RowIn tuE h v l ∧ ∀ A n st, v = .slice (some A) n st → A.block < h.next := by
  obtain ⟨le, h1, h2, h3, h4⟩ := slr_row tuRd tuE rfl (by decide) (fun x y => x = y) (fun x vs hr => by
    obtain ⟨u1, v1, rfl, rfl, u2, v2, rfl, rfl, u3, v3, rfl, rfl, u4, v4, rfl, rfl, rfl⟩ := hr
    exact ⟨x, rfl, rfl⟩) hs
  have e : le = l := by
    apply List.ext_getElem?
    intro i
    by_cases hi : i < l.length
    · have hx := List.getElem?_eq_getElem hi
      obtain ⟨e, h5, h6⟩ := h3 i _ hx
      rw [hx, h5, h6]
    · rw [List.getElem?_eq_none (by omega), List.getElem?_eq_none (by omega)]
  exact ⟨e ▸ h1, h4⟩
end Ph
