/- The statement 'StreamBack' as plain Lean: what put wrote reads back the same, and two heads put to the same text are the same. -/
import Derived.Test.YtcfdnicnjhilkaaDoorSP
import Derived.Test.YtcfdnicnjhilkaaDoorF25
namespace Go.Proofs.YtcfdnicnjhilkaaDoor.Pure
open Go.RowKit Go.Proofs.YtcfdnicnjhilkaaDoor.F Go.Proofs.YtcfdnicnjhilkaaDoor.SP Go.Proofs.YtcfdnicnjhilkaaDoorW.PrintWords
theorem beq_lists (a b : B) : (a == b) = decide (a = b) := by
  by_cases h : a = b
  · subst h; simp
  · rw [decide_eq_false h]; simpa using h
theorem back_j0 (n m : ByteArray) (l q : List S60) (h : rightS n.data.toList l = 0) (h' : rightS m.data.toList q = 0) : Ev (fun k => marshallinglaw03_StreamBack.j0 k true n l m q) true := by
  have hl := (rightS_parts h).2.1
  have hq := (rightS_parts h').2.1
  have sl := putS_small h
  have sq := putS_small h'
  have p1 := put_f n l (by omega) (by omega)
  have p2 := put_f m q (by omega) (by omega)
  have g := get_ev ⟨(putS n.data.toList l).toArray⟩ (by show (putS n.data.toList l).toArray.size ≤ _; simp; omega)
  have e : getS (⟨(putS n.data.toList l).toArray⟩ : ByteArray).data.toList = (n, l, true) := get_put h
  rw [e] at g
  obtain ⟨b0, s0, i0⟩ := same_ev n n l l (by omega)
  have b0' : b0 = true := i0.2 ⟨rfl, rfl⟩
  subst b0'
  obtain ⟨b1, s1, i1⟩ := same_ev n m l q (by omega)
  obtain ⟨b2, s2, i2⟩ := same_ev m n q l (by omega)
  refine Ev.step (f := fun k => _) (fun k => by rw [marshallinglaw03_StreamBack.j0]) ?_
  refine Ev.bind p1 (Ev.bind g (Ev.pos rfl (Ev.pos rfl (Ev.bind s0 (Ev.pos rfl (Ev.bind p1 (Ev.bind p2 (Ev.bind s1 (Ev.pos ?_ (Ev.bind s1 (Ev.bind s2 ?_)))))))))))
  · rw [tl, tl, beq_lists]
    show (decide (putS n.data.toList l = putS m.data.toList q) == b1) = true
    by_cases e1 : n = m ∧ l = q
    · rw [i1.2 e1, e1.1, e1.2]; simp
    · have hb : b1 = false := by cases b1 with | false => rfl | true => exact absurd (i1.1 rfl) e1
      have hp : ¬ putS n.data.toList l = putS m.data.toList q := fun e2 => e1 (put_inj h h' e2)
      rw [hb, decide_eq_false hp]; rfl
  · have e12 : b1 = b2 := by
      rw [Bool.eq_iff_iff, i1, i2]
      constructor <;> rintro ⟨rfl, rfl⟩ <;> exact ⟨rfl, rfl⟩
    rw [e12, beq_self_eq_true]; exact Ev.now _
theorem StreamBack : ∀ (a0 : Int) (l1 : List Int) (a2 : Int) (l3 : List Int) (a4 : Bool), (Lit.int .u8 a0).wf = true → l1.length ≤ maxLen → l1.length * 1 ≤ 140737488351232 → (∀ x ∈ l1, (Lit.int .u8 x).wf = true) → (Lit.int .u8 a2).wf = true → l3.length ≤ maxLen → l3.length * 1 ≤ 140737488351232 → (∀ x ∈ l3, (Lit.int .u8 x).wf = true) → ∃ k, marshallinglaw03_StreamBack.f k a0 l1 a2 l3 a4 = some true := by
  intro a0 l1 a2 l3 a4 w0 m1 z1 w1 w2 m3 z3 w3
  have o1 := own_ev a0 l1 (wf_u8 w0).1 (fun x hx => wf_u8 (w1 x hx)) (by omega)
  have o2 := own_ev a2 l3 (wf_u8 w2).1 (fun x hx => wf_u8 (w3 x hx)) (by omega)
  have r1 := own_right a0 (l1.take 6) (by rw [List.length_take]; omega)
  have r2 := own_right a2 (l3.take 6) (by rw [List.length_take]; omega)
  refine Ev.rounds ?_
  unfold marshallinglaw03_StreamBack.f
  refine Ev.got rfl (Ev.pos rfl (Ev.bind o1 (Ev.bind o2 ?_)))
  by_cases h : a4 = true
  · exact Ev.pos h (Ev.bind o1 (back_j0 _ _ _ _ r1 r1))
  · exact Ev.neg h (back_j0 _ _ _ _ r1 r2)
end Go.Proofs.YtcfdnicnjhilkaaDoor.Pure
