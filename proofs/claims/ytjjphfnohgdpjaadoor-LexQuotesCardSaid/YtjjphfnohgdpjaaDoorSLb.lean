/- Layer 6 in plain Lean: what first and All compute, by their rounds. -/
import Derived.Test.YtjjphfnohgdpjaaDoorSLa
import Derived.Test.YtjjphfnohgdpjaaDoorK5
namespace Go.Proofs.YtjjphfnohgdpjaaDoor.SL
set_option linter.unusedVariables false
set_option linter.unusedSimpArgs false
open Go.RowKit Go.Proofs.YtjjphfnohgdpjaaDoor.K Go.Proofs.YtjjphfnohgdpjaaDoor.SN Go.Proofs.YtjjphfnohgdpjaaDoorW.PrintWords
theorem takeWhile_one (p : UInt8 → Bool) (s : B) : ((s.take 1).takeWhile p).length = match s with | [] => 0 | c :: _ => if p c = true then 1 else 0 := by
  cases s with
  | nil => rfl
  | cons c r =>
    simp only [List.take_succ_cons, List.take_zero]
    by_cases h : p c = true
    · rw [List.takeWhile_cons_of_pos h, if_pos h]; rfl
    · rw [List.takeWhile_cons_of_neg h, if_neg h]; rfl
theorem u8_ne {c d : UInt8} (h : c ≠ d) : ¬ ((c.toNat : Int) = (d.toNat : Int)) := fun e => h (UInt8.toNat_inj.1 (by omega))
set_option maxHeartbeats 4000000 in
set_option maxRecDepth 100000 in
theorem first_ev (a : ByteArray) (h : a.size < 281474976710656) (h0 : 0 < a.size) : ∃ r, Ev (fun k => lex_first.f k a) r ∧ FitsP r (firstS a.data.toList) := by
  have hx : (a.extract 0 1).size < 9223372036854775807 := by rw [← dsize, ext_take, List.length_take]; omega
  have s1 := span_ev (a.extract 0 1) ⟨#[97, 98, 99, 100, 101, 102, 103, 104, 105, 106, 107, 108, 109, 110, 111, 112, 113, 114, 115, 116, 117, 118, 119, 120, 121, 122, 65, 66, 67, 68, 69, 70, 71, 72, 73, 74, 75, 76, 77, 78, 79, 80, 81, 82, 83, 84, 85, 86, 87, 88, 89, 90, 95]⟩ hx
  have s2 := span_ev (a.extract 0 1) ⟨#[48, 49, 50, 51, 52, 53, 54, 55, 56, 57]⟩ hx
  rw [ext_take] at s1 s2
  rw [show (⟨#[97, 98, 99, 100, 101, 102, 103, 104, 105, 106, 107, 108, 109, 110, 111, 112, 113, 114, 115, 116, 117, 118, 119, 120, 121, 122, 65, 66, 67, 68, 69, 70, 71, 72, 73, 74, 75, 76, 77, 78, 79, 80, 81, 82, 83, 84, 85, 86, 87, 88, 89, 90, 95]⟩ : ByteArray).data.toList = letters from rfl] at s1
  rw [show (⟨#[48, 49, 50, 51, 52, 53, 54, 55, 56, 57]⟩ : ByteArray).data.toList = digitsN from rfl] at s2
  unfold spanN at s1 s2
  rw [takeWhile_one] at s1 s2
  have hlen : 0 < a.data.toList.length := by rw [dsize]; exact h0
  have e0 : bt a 0 = ((a.data.toList[0]).toNat : Int) := bt_eq a 0 hlen
  obtain ⟨rn, en, fn⟩ := named_ev a (by omega)
  obtain ⟨rc, ec, fc⟩ := counted_ev a h h0
  obtain ⟨rq, eq, fq⟩ := quoted_f a (by omega) h0
  obtain ⟨rs, es, fs⟩ := signed_f a
  unfold firstS lex_first.f
  generalize a.data.toList = L at *
  cases L with
  | nil => simp at hlen
  | cons c l =>
    simp only [List.getElem_cons_zero] at e0
    simp only at s1 s2 ⊢
    by_cases h1 : letters.contains c = true
    · rw [if_pos h1] at s1 ⊢
      refine ⟨rn, Ev.pos (by omega) (Ev.pos (by omega) (Ev.bind s1 (Ev.pos (by decide) (Ev.bind en (Ev.now _))))), fn⟩
    · rw [if_neg h1] at s1 ⊢
      by_cases h2 : digitsN.contains c = true
      · rw [if_pos h2] at s2 ⊢
        exact ⟨rc, Ev.pos (by omega) (Ev.pos (by omega) (Ev.bind s1 (Ev.neg (by decide) (Ev.bind s2 (Ev.pos (by decide) (Ev.bind ec (Ev.now _))))))), fc⟩
      · rw [if_neg h2] at s2 ⊢
        by_cases h3 : c = 39
        · rw [if_pos h3]
          exact ⟨rq, Ev.pos (by omega) (Ev.pos (by omega) (Ev.bind s1 (Ev.neg (by decide) (Ev.bind s2 (Ev.neg (by decide) (Ev.pos (by omega) (Ev.pos (by rw [e0, h3]; decide) (Ev.got eq (Ev.now _))))))))), fq⟩
        · rw [if_neg h3]
          have e1 : ¬ (bt a 0 = 39) := by rw [e0]; intro e; exact u8_ne h3 (by rw [e]; rfl)
          have e2 : (0 : Int) < (a.size : Int) := by omega
          clear e0 hx
          refine ⟨rs, ?_, fs⟩
          exact Ev.pos (by decide) (Ev.pos e2 (Ev.bind s1 (Ev.neg (by decide) (Ev.bind s2 (Ev.neg (by decide) (Ev.pos e2 (Ev.neg e1 (Ev.got es (Ev.now _)))))))))
theorem all_go (a : ByteArray) (hsz : a.size ≤ 2048) : ∀ (f p : Nat) (acc : List S40), (a.data.toList.drop p).length ≤ f → p ≤ a.size → acc.length ≤ p → Ev (fun k => lex_All.l0 k a acc (p : Int)) (outS acc (lexG f (a.data.toList.drop p) p)) := by
  intro f
  induction f with
  | zero =>
    intro p acc hf hp ha
    rw [List.length_drop, dsize] at hf
    refine Ev.step (f := fun k => _) (fun k => by rw [lex_All.l0]) ?_
    refine Ev.neg (by omega) (Ev.ret ?_)
    simp [lexG, outS]
  | succ f ih =>
    intro p acc hf hp ha
    rw [List.length_drop, dsize] at hf
    refine Ev.step (f := fun k => _) (fun k => by rw [lex_All.l0]) ?_
    by_cases hlt : p < a.size
    · have hne : a.data.toList.drop p ≠ [] := by
        intro e
        have := congrArg List.length e
        rw [List.length_drop, dsize] at this
        simp at this; omega
      have hxs : (a.extract p a.size).size = a.size - p := by rw [← dsize, ext_drop, List.length_drop, dsize]
      obtain ⟨r, er, fr⟩ := first_ev (a.extract p a.size) (by omega) (by omega)
      rw [ext_drop] at fr
      rw [lexG, if_neg hne]
      cases hF : firstS (a.data.toList.drop p) with
      | none =>
        rw [hF] at fr
        refine Ev.pos (by omega) (Ev.pos (by omega) (Ev.pos (by omega) (Ev.bind er (Ev.neg ?_ (Ev.ret ?_)))))
        · rw [show r.2.2.2.2.2 = false from fr.out]; simp
        · simp [outS]
      | some x =>
        obtain ⟨kd, t, v, m⟩ := x
        rw [hF] at fr
        obtain rfl : r = (kd, ⟨t.toArray⟩, v, 0, (m : Int), true) := fr.out
        obtain ⟨m1, m2⟩ := first_bounds hF
        rw [List.length_drop, dsize] at m2
        have hs := span_ev (a.extract (p + m) a.size) ⟨#[32, 9, 10, 13]⟩ (by
          have : (a.extract (p + m) a.size).size = a.size - (p + m) := by rw [← dsize, ext_drop, List.length_drop, dsize]
          omega)
        rw [ext_drop, show (⟨#[32, 9, 10, 13]⟩ : ByteArray).data.toList = spaceN from rfl] at hs
        have hl := span_le spaceN (a.data.toList.drop (p + m))
        rw [List.length_drop, dsize] at hl
        have hd : (a.data.toList.drop p).drop m = a.data.toList.drop (p + m) := by rw [List.drop_drop]
        simp only [hd]
        generalize spanN spaceN (a.data.toList.drop (p + m)) = n at hs hl ⊢
        have hI := ih (p + (m + n)) (acc ++ [(⟨kd, ⟨t.toArray⟩, v, (p : Int)⟩ : S40)]) (by rw [List.length_drop, dsize]; omega) (by omega) (by rw [List.length_append, List.length_singleton]; omega)
        have e : outS acc ((⟨kd, ⟨t.toArray⟩, v, (p : Int)⟩ : S40) :: (lexG f (a.data.toList.drop (p + (m + n))) (p + (m + n))).1, (lexG f (a.data.toList.drop (p + (m + n))) (p + (m + n))).2) = outS (acc ++ [(⟨kd, ⟨t.toArray⟩, v, (p : Int)⟩ : S40)]) (lexG f (a.data.toList.drop (p + (m + n))) (p + (m + n))) := by
          unfold outS
          simp
        rw [List.drop_drop, e]
        refine Ev.pos (by omega) (Ev.pos (by omega) (Ev.pos (by omega) (Ev.bind er ?_)))
        dsimp only
        rw [show wrap64 ((p : Int) + (m : Int)) = ((p + m : Nat) : Int) by unfold wrap64; omega]
        refine Ev.pos rfl (Ev.pos (by omega) (Ev.pos (by omega) (Ev.pos (by omega) (Ev.bind hs ?_))))
        rw [show wrap64 (((p + m : Nat) : Int) + (n : Int)) = ((p + (m + n) : Nat) : Int) by unfold wrap64; omega]
        exact hI
    · have hnil : a.data.toList.drop p = [] := List.drop_of_length_le (by rw [dsize]; omega)
      refine Ev.neg (by omega) (Ev.ret ?_)
      rw [hnil, lexG, if_pos rfl]
      simp [outS]
theorem all_ev (a : ByteArray) : Ev (fun k => lex_All.f k a) (allS a.data.toList) := by
  unfold lex_All.f allS
  by_cases h : a.size > 2048
  · rw [if_pos (by rw [dsize]; exact h)]
    exact Ev.pos (by omega) (Ev.now _)
  · rw [if_neg (by rw [dsize]; exact h)]
    have hs := span_ev a ⟨spaceN.toArray⟩ (by omega)
    have hl := span_le spaceN a.data.toList
    rw [dsize] at hl
    refine Ev.neg (by omega) (Ev.bind hs ?_)
    exact all_go a (by omega) _ _ [] (Nat.le_refl _) hl (by simp)
end Go.Proofs.YtjjphfnohgdpjaaDoor.SL
