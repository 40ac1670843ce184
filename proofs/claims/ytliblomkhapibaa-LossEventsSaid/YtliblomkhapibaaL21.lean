import Derived.Test.YtliblomkhapibaaL20
set_option maxRecDepth 100000
set_option maxHeartbeats 1000000
set_option linter.unusedSimpArgs false
set_option linter.unusedVariables false
namespace Ph
open Go Go.Proofs
/-! LossOnce: what the state does. -/
/-- what was told of those that wait -/
structure Tells (s s' : St) (l : List Int) : Prop where
  waits : ∃ R : Pk → Bool, s'.waits = s.waits.filter (fun x => !R x) ∧ ∀ x ∈ s.waits, R x = decide (x.num ∈ l)
  nodup : (s.waits.map (·.num)).Nodup → l.Nodup
  from_ : ∀ n ∈ l, ∃ x ∈ s.waits, x.num = n
  top : s'.top = s.top
theorem uniq {l : List Pk} (h : (l.map (·.num)).Nodup) {x y : Pk} (hx : x ∈ l) (hy : y ∈ l) (e : x.num = y.num) : x = y := by
  induction l with
  | nil => simp at hx
  | cons z l ih =>
    rw [List.map_cons, List.nodup_cons] at h
    rcases List.mem_cons.1 hx with ex | hx' <;> rcases List.mem_cons.1 hy with ey | hy'
    · rw [ex, ey]
    · exact absurd (List.mem_map.2 ⟨y, hy', by rw [← e, ex]⟩) h.1
    · exact absurd (List.mem_map.2 ⟨x, hx', by rw [e, ey]⟩) h.1
    · exact ih h.2 hx' hy'
theorem give_waits (s : St) (at_ : Int) : (giveS s at_).waits = s.waits.filter (fun x => !giveP s.best (at_ - waitT s) x) ∧ (giveS s at_).top = s.top ∧ (giveS s at_).now = s.now := by
  unfold giveS
  split
  · split <;> exact ⟨rfl, rfl, rfl⟩
  · exact ⟨rfl, rfl, rfl⟩
theorem foldg_keep : ∀ (c : List Pk) (s : St), (c.foldl growS s).waits = s.waits ∧ (c.foldl growS s).top = s.top ∧ (c.foldl growS s).now = s.now
  | [], s => ⟨rfl, rfl, rfl⟩
  | x :: c, s => by
    obtain ⟨h1, h2, h3⟩ := foldg_keep c (growS s x)
    obtain ⟨g1, g2, g3, _⟩ := grow_keep s x
    exact ⟨h1.trans g1, h2.trans g2, h3.trans g3⟩
theorem ack3_keep (s : St) (c : List Pk) (delay at_ : Int) : (ack3 s c delay at_).waits = s.waits ∧ (ack3 s c delay at_).top = s.top ∧ (ack3 s c delay at_).now = s.now := by
  unfold ack3
  split
  · exact ⟨rfl, rfl, rfl⟩
  · rename_i x _
    obtain ⟨h1, h2, h3⟩ := foldg_keep c (ack2 s c delay at_ x)
    have h4 : (ack2 s c delay at_ x).waits = s.waits ∧ (ack2 s c delay at_ x).top = s.top ∧ (ack2 s c delay at_ x).now = s.now := by
      unfold ack2
      split
      · split
        · unfold sampleS; split <;> exact ⟨rfl, rfl, rfl⟩
        · exact ⟨rfl, rfl, rfl⟩
      · exact ⟨rfl, rfl, rfl⟩
    exact ⟨h1.trans h4.1, h2.trans h4.2.1, h3.trans h4.2.2⟩
theorem fire_tells (s : St) (at_ : Int) (hd : (s.waits.map (·.num)).Nodup) : Tells s (fireS s at_).1 (fireS s at_).2.1 := by
  have none : ∀ s' : St, s'.waits = s.waits → s'.top = s.top → Tells s s' [] := fun s' e1 e2 => ⟨⟨fun _ => false, by rw [e1]; exact (List.filter_eq_self.2 fun _ _ => rfl).symm, fun x _ => by simp⟩, fun _ => List.nodup_nil, by simp, e2⟩
  unfold fireS
  split
  · simp only
    split
    · split
      · obtain ⟨h1, h2, _⟩ := give_waits { s with now := at_ } at_
        refine ⟨⟨_, h1, fun x hx => ?_⟩, fun h => ?_, fun n hn => ?_, h2⟩
        · symm
          cases hg : giveP s.best (at_ - waitT { s with now := at_ }) x with
          | true => exact decide_eq_true (List.mem_map.2 ⟨x, List.mem_filter.2 ⟨hx, hg⟩, rfl⟩)
          | false =>
            refine decide_eq_false fun hm => ?_
            obtain ⟨y, hy, e⟩ := List.mem_map.1 hm
            obtain ⟨hy1, hy2⟩ := List.mem_filter.1 hy
            have := uniq hd hx hy1 e.symm
            subst this
            have hy3 : giveP s.best (at_ - waitT { s with now := at_ }) x = true := hy2
            rw [hg] at hy3; cases hy3
        · exact h.sublist (List.Sublist.map _ List.filter_sublist)
        · obtain ⟨x, hx, e⟩ := List.mem_map.1 hn
          exact ⟨x, (List.mem_filter.1 hx).1, e⟩
      · exact none _ rfl rfl
    · exact none _ rfl rfl
  · exact none _ rfl rfl
theorem acked_tells (s : St) (l : List Sp) (delay at_ : Int) (hd : (s.waits.map (·.num)).Nodup) : Tells s (ackS s l delay at_).1 ((ackS s l delay at_).2.1 ++ (ackS s l delay at_).2.2.1) := by
  have none : ∀ s' : St, s'.waits = s.waits → s'.top = s.top → Tells s s' ([] ++ []) := fun s' e1 e2 => ⟨⟨fun _ => false, by rw [e1]; exact (List.filter_eq_self.2 fun _ _ => rfl).symm, fun x _ => by simp⟩, fun _ => List.nodup_nil, by simp, e2⟩
  unfold ackS
  split
  · split
    · simp only
      obtain ⟨k1, k2, _⟩ := ack3_keep (ack1 s l at_) (ackL s l) delay at_
      obtain ⟨h1, h2, _⟩ := give_waits (ack3 (ack1 s l at_) (ackL s l) delay at_) at_
      have hgl : giveL (ack3 (ack1 s l at_) (ackL s l) delay at_) at_ = (s.waits.filter (fun x => !ackP l x)).filter (giveP (ack3 (ack1 s l at_) (ackL s l) delay at_).best (at_ - waitT (ack3 (ack1 s l at_) (ackL s l) delay at_))) := by
        unfold giveL; rw [k1]; rfl
      rw [k1] at h1
      rw [hgl]
      generalize giveP (ack3 (ack1 s l at_) (ackL s l) delay at_).best (at_ - waitT (ack3 (ack1 s l at_) (ackL s l) delay at_)) = Q at *
      have hm : ∀ x ∈ s.waits, (ackP l x || Q x) = decide (x.num ∈ (ackL s l).map (·.num) ++ ((s.waits.filter (fun x => !ackP l x)).filter Q).map (·.num)) := fun x hx => by
        symm
        cases hp : ackP l x with
        | true => exact decide_eq_true (List.mem_append.2 (.inl (List.mem_map.2 ⟨x, List.mem_filter.2 ⟨hx, hp⟩, rfl⟩)))
        | false =>
          cases hq : Q x with
          | true => exact decide_eq_true (List.mem_append.2 (.inr (List.mem_map.2 ⟨x, List.mem_filter.2 ⟨List.mem_filter.2 ⟨hx, by rw [hp]; rfl⟩, hq⟩, rfl⟩)))
          | false =>
            refine decide_eq_false fun hm => ?_
            rcases List.mem_append.1 hm with hm | hm
            · obtain ⟨y, hy, e⟩ := List.mem_map.1 hm
              obtain ⟨hy1, hy2⟩ := List.mem_filter.1 hy
              have := uniq hd hx hy1 e.symm
              subst this
              rw [hp] at hy2; cases hy2
            · obtain ⟨y, hy, e⟩ := List.mem_map.1 hm
              obtain ⟨hy1, hy2⟩ := List.mem_filter.1 hy
              have := uniq hd hx (List.mem_filter.1 hy1).1 e.symm
              subst this
              rw [hq] at hy2; cases hy2
      refine ⟨⟨fun x => ackP l x || Q x, ?_, hm⟩, fun h => ?_, fun n hn => ?_, h2.trans k2⟩
      · rw [h1]
        show (s.waits.filter (fun x => !ackP l x)).filter (fun x => !Q x) = _
        rw [List.filter_filter]
        exact List.filter_congr fun x _ => by show (!Q x && !ackP l x) = !(ackP l x || Q x); cases ackP l x <;> cases Q x <;> rfl
      · refine List.nodup_append.2 ⟨h.sublist (List.Sublist.map _ List.filter_sublist), h.sublist (List.Sublist.map _ (List.filter_sublist.trans List.filter_sublist)), fun a ha b hb e => ?_⟩
        subst e
        obtain ⟨x, hx, e1⟩ := List.mem_map.1 ha
        obtain ⟨y, hy, e2⟩ := List.mem_map.1 hb
        obtain ⟨hx1, hx2⟩ := List.mem_filter.1 hx
        obtain ⟨hy1, _⟩ := List.mem_filter.1 hy
        obtain ⟨hy2, hy3⟩ := List.mem_filter.1 hy1
        have := uniq hd hx1 hy2 (e1.trans e2.symm)
        subst this
        rw [hx2] at hy3; cases hy3
      · rcases List.mem_append.1 hn with hn | hn
        · obtain ⟨x, hx, e⟩ := List.mem_map.1 hn
          exact ⟨x, (List.mem_filter.1 hx).1, e⟩
        · obtain ⟨x, hx, e⟩ := List.mem_map.1 hn
          exact ⟨x, (List.mem_filter.1 (List.mem_filter.1 hx).1).1, e⟩
    · exact none _ rfl rfl
  · exact none _ rfl rfl
end Ph
