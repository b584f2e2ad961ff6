-- Written by this session's program mprint.py over the kit's printer (with hand-written contracts laid in). Not trusted: Lean checks it.
import Derived.Test.YtccaodehgaaheaaDoorP0
import Derived.Test.YtccaodehgaaheaaDoorP6
import Derived.Test.YtccaodehgaaheaaDoorP9
import Derived.Test.YtccaodehgaaheaaDoorP11
import Derived.Test.YtccaodehgaaheaaDoorP14
namespace Go.Proofs.YtccaodehgaaheaaDoor.P
open Go.RowKit Go.Proofs.YtccaodehgaaheaaDoorW.PrintWords Go.Proofs.YtccaodehgaaheaaDoorW.PrintLast Go.Proofs.YtccaodehgaaheaaDoorW.PrintMore
attribute [local go_sem] max2_int min2_int max_two min_two max_three min_three max_four min_four   -- for this text's walks alone
set_option linter.unusedVariables false
set_option linter.unusedSimpArgs false

/-! ### marshallinglaw07_ExprNames: function 8 -/
mutual
def marshallinglaw07_ExprNames.j0 : Nat → ByteArray → ByteArray → Bool → Option (Bool)
  | 0, _, _, _ => none
  | k + 1, x0, x1, x7 => (expr_Right.f k 2 (⟨#[]⟩ : ByteArray) 0 0 (⟨#[]⟩ : ByteArray) x0 (⟨#[]⟩ : ByteArray) ([] : List (S26))).bind fun t401 => ((expr_Right.f k 1 (⟨#[]⟩ : ByteArray) 0 0 (⟨#[]⟩ : ByteArray) (⟨#[97]⟩ : ByteArray) x1 ([] : List (S26))).bind fun t402 => (if t401 = true then ((expr_Put.f k 2 (⟨#[]⟩ : ByteArray) 0 0 (⟨#[]⟩ : ByteArray) x0 (⟨#[]⟩ : ByteArray) ([] : List (S26))).bind fun t403 => (if 1 + x0.size ≤ 9223372036854775807 then (if t403.toList = ((⟨#[35]⟩ : ByteArray) ++ x0).toList then (if t402 = true then ((expr_Put.f k 1 (⟨#[]⟩ : ByteArray) 0 0 (⟨#[]⟩ : ByteArray) x0 x1 ([] : List (S26))).bind fun t404 => (if x0.size + 1 ≤ 9223372036854775807 then (if (x0 ++ (⟨#[46]⟩ : ByteArray)).size + x1.size ≤ 9223372036854775807 then (marshallinglaw07_ExprNames.j1 k x0 x7 t401 t402 (t404.toList != ((x0 ++ (⟨#[46]⟩ : ByteArray)) ++ x1).toList) 1 (⟨#[]⟩ : ByteArray) 0 0 (⟨#[]⟩ : ByteArray) x0 x1) else (none)) else (none))) else (marshallinglaw07_ExprNames.j1 k x0 x7 t401 t402 false 1 (⟨#[]⟩ : ByteArray) 0 0 (⟨#[]⟩ : ByteArray) x0 x1)) else (marshallinglaw07_ExprNames.j1 k x0 x7 t401 t402 true 1 (⟨#[]⟩ : ByteArray) 0 0 (⟨#[]⟩ : ByteArray) x0 x1)) else (none))) else (marshallinglaw07_ExprNames.j1 k x0 x7 t401 t402 false 1 (⟨#[]⟩ : ByteArray) 0 0 (⟨#[]⟩ : ByteArray) x0 x1)))
def marshallinglaw07_ExprNames.j1 : Nat → ByteArray → Bool → Bool → Bool → Bool → Int → ByteArray → Int → Int → ByteArray → ByteArray → ByteArray → Option (Bool)
  | 0, _, _, _, _, _, _, _, _, _, _, _, _ => none
  | k + 1, x0, x7, x10, x11, x57, x400000, x400001, x400002, x400003, x400004, x400005, x400006 => if x57 = true then (none) else ((expr_Vars.f k x400000 x400001 x400002 x400003 x400004 x400005 x400006 ([] : List (S26))).bind fun t405 => (if x7 = true then ((expr_Right.f k x400000 x400001 x400002 x400003 x400004 x400005 x400006 ([] : List (S26))).bind fun t408 => (if x10 = true then (if (t408 == x11) = true then ((expr_Right.f k 2 (⟨#[]⟩ : ByteArray) 0 0 (⟨#[]⟩ : ByteArray) (⟨#[57]⟩ : ByteArray) (⟨#[]⟩ : ByteArray) ([] : List (S26))).bind fun t409 => (if t409 = true then (none) else (if (t405.length : Int) = 1 then (if 0 < (t405.length : Int) then (some ((rdOf ByteArray.empty t405 0).toList == x0.toList)) else (none)) else (none)))) else (none)) else (if (t408 == false) = true then ((expr_Right.f k 2 (⟨#[]⟩ : ByteArray) 0 0 (⟨#[]⟩ : ByteArray) (⟨#[57]⟩ : ByteArray) (⟨#[]⟩ : ByteArray) ([] : List (S26))).bind fun t411 => (if t411 = true then (none) else (if (t405.length : Int) = 1 then (if 0 < (t405.length : Int) then (some ((rdOf ByteArray.empty t405 0).toList == x0.toList)) else (none)) else (none)))) else (none)))) else (none)))
end
def marshallinglaw07_ExprNames.f (k : Nat) (a0 : ByteArray) (a1 : ByteArray) (a2 : Int) : Option (Bool) := (marshallinglaw07_examples.f k).bind fun t394 => (if t394 = true then (if (Int.tmod a2 3) = 0 then ((some (([(⟨#[97]⟩ : ByteArray), (⟨#[95]⟩ : ByteArray), (⟨#[98, 57]⟩ : ByteArray), (⟨#[66, 89]⟩ : ByteArray), (⟨#[116, 114, 117, 101]⟩ : ByteArray)] : List ByteArray) : List ByteArray)).bind fun y395 => (if 0 ≤ (((Int.tdiv a2 3) % 256) % 5) then (if (((Int.tdiv a2 3) % 256) % 5) < (y395.length : Int) then (marshallinglaw07_ExprNames.j0 k (rdOf ByteArray.empty y395 (((Int.tdiv a2 3) % 256) % 5)) a1 t394) else (none)) else (none))) else (marshallinglaw07_ExprNames.j0 k a0 a1 t394)) else (none))
theorem marshallinglaw07_ExprNames.mono_l : ∀ k, (∀ y0 y1 y2, LeO (marshallinglaw07_ExprNames.j0 k y0 y1 y2) (marshallinglaw07_ExprNames.j0 (k + 1) y0 y1 y2)) ∧ (∀ y0 y1 y2 y3 y4 y5 y6 y7 y8 y9 y10 y11, LeO (marshallinglaw07_ExprNames.j1 k y0 y1 y2 y3 y4 y5 y6 y7 y8 y9 y10 y11) (marshallinglaw07_ExprNames.j1 (k + 1) y0 y1 y2 y3 y4 y5 y6 y7 y8 y9 y10 y11))
  | 0 => ⟨fun _ _ _ r h => by simp [marshallinglaw07_ExprNames.j0] at h, fun _ _ _ _ _ _ _ _ _ _ _ _ r h => by simp [marshallinglaw07_ExprNames.j1] at h⟩
  | k + 1 => by
    obtain ⟨ih0, ih1⟩ := marshallinglaw07_ExprNames.mono_l k
    refine ⟨?_, ?_⟩
    · intro y0 y1 y2
      unfold marshallinglaw07_ExprNames.j0
      repeat' first
      | (with_reducible exact ih0 _ _ _)
      | (with_reducible exact ih1 _ _ _ _ _ _ _ _ _ _ _ _)
      | (with_reducible exact expr_Put.mono _ _ _ _ _ _ _ _ _)
      | (with_reducible exact expr_Right.mono _ _ _ _ _ _ _ _ _)
      | (with_reducible exact expr_Vars.mono _ _ _ _ _ _ _ _ _)
      | (with_reducible exact marshallinglaw07_examples.mono _)
      | (with_reducible exact LeO.refl _)
      | (with_reducible exact LeO.none _)
      | (with_reducible refine LeO.ite ?_ ?_)
      | (with_reducible refine LeO.bind ?_ (fun _ => ?_))
      | exact ih0 _ _ _
      | exact ih1 _ _ _ _ _ _ _ _ _ _ _ _
      | exact expr_Put.mono _ _ _ _ _ _ _ _ _
      | exact expr_Right.mono _ _ _ _ _ _ _ _ _
      | exact expr_Vars.mono _ _ _ _ _ _ _ _ _
      | exact marshallinglaw07_examples.mono _
      | exact LeO.none _
      | refine LeO.ite ?_ ?_
      | refine LeO.bind ?_ (fun _ => ?_)
    · intro y0 y1 y2 y3 y4 y5 y6 y7 y8 y9 y10 y11
      unfold marshallinglaw07_ExprNames.j1
      repeat' first
      | (with_reducible exact ih0 _ _ _)
      | (with_reducible exact ih1 _ _ _ _ _ _ _ _ _ _ _ _)
      | (with_reducible exact expr_Put.mono _ _ _ _ _ _ _ _ _)
      | (with_reducible exact expr_Right.mono _ _ _ _ _ _ _ _ _)
      | (with_reducible exact expr_Vars.mono _ _ _ _ _ _ _ _ _)
      | (with_reducible exact marshallinglaw07_examples.mono _)
      | (with_reducible exact LeO.refl _)
      | (with_reducible exact LeO.none _)
      | (with_reducible refine LeO.ite ?_ ?_)
      | (with_reducible refine LeO.bind ?_ (fun _ => ?_))
      | exact ih0 _ _ _
      | exact ih1 _ _ _ _ _ _ _ _ _ _ _ _
      | exact expr_Put.mono _ _ _ _ _ _ _ _ _
      | exact expr_Right.mono _ _ _ _ _ _ _ _ _
      | exact expr_Vars.mono _ _ _ _ _ _ _ _ _
      | exact marshallinglaw07_examples.mono _
      | exact LeO.none _
      | refine LeO.ite ?_ ?_
      | refine LeO.bind ?_ (fun _ => ?_)
theorem marshallinglaw07_ExprNames.mono : ∀ a0 a1 a2 k, LeO (marshallinglaw07_ExprNames.f k a0 a1 a2) (marshallinglaw07_ExprNames.f (k + 1) a0 a1 a2) := by
  intro a0 a1 a2 k
  obtain ⟨ih0, ih1⟩ := marshallinglaw07_ExprNames.mono_l k
  unfold marshallinglaw07_ExprNames.f
  repeat' first
      | (with_reducible exact ih0 _ _ _)
      | (with_reducible exact ih1 _ _ _ _ _ _ _ _ _ _ _ _)
      | (with_reducible exact expr_Put.mono _ _ _ _ _ _ _ _ _)
      | (with_reducible exact expr_Right.mono _ _ _ _ _ _ _ _ _)
      | (with_reducible exact expr_Vars.mono _ _ _ _ _ _ _ _ _)
      | (with_reducible exact marshallinglaw07_examples.mono _)
      | (with_reducible exact LeO.refl _)
      | (with_reducible exact LeO.none _)
      | (with_reducible refine LeO.ite ?_ ?_)
      | (with_reducible refine LeO.bind ?_ (fun _ => ?_))
      | exact ih0 _ _ _
      | exact ih1 _ _ _ _ _ _ _ _ _ _ _ _
      | exact expr_Put.mono _ _ _ _ _ _ _ _ _
      | exact expr_Right.mono _ _ _ _ _ _ _ _ _
      | exact expr_Vars.mono _ _ _ _ _ _ _ _ _
      | exact marshallinglaw07_examples.mono _
      | exact LeO.none _
      | refine LeO.ite ?_ ?_
      | refine LeO.bind ?_ (fun _ => ?_)
set_option maxHeartbeats 8000000 in
set_option maxRecDepth 100000 in
theorem marshallinglaw07_ExprNames.calls (k : Nat) (a0 : ByteArray) (a1 : ByteArray) (a2 : Int) (r : Bool) (w : World) (hG : Glob w) (h : marshallinglaw07_ExprNames.f k a0 a1 a2 = some r) :
    Calls Tryd.prog 8 #[.string a0, .string a1, .int .u8 a2] w fun e w' => e = .returned (.bool r) ∧ Below w.heap.size w w' := by
  have hu26 := Tryd.underlying26
  have HG := Aside0.mk hG
  clear hG
  have HB := Aside0.mk (Below.refl w.heap.size w)
  have H : ((marshallinglaw07_examples.f k).bind fun t394 => (if t394 = true then (if (Int.tmod a2 3) = 0 then ((some (([(⟨#[97]⟩ : ByteArray), (⟨#[95]⟩ : ByteArray), (⟨#[98, 57]⟩ : ByteArray), (⟨#[66, 89]⟩ : ByteArray), (⟨#[116, 114, 117, 101]⟩ : ByteArray)] : List ByteArray) : List ByteArray)).bind fun y395 => (if 0 ≤ (((Int.tdiv a2 3) % 256) % 5) then (if (((Int.tdiv a2 3) % 256) % 5) < (y395.length : Int) then (marshallinglaw07_ExprNames.j0 k (rdOf ByteArray.empty y395 (((Int.tdiv a2 3) % 256) % 5)) a1 t394) else (none)) else (none))) else (marshallinglaw07_ExprNames.j0 k a0 a1 t394)) else (none))) = some r := h
  clear h
  replace H := Option.bind_eq_some_iff.mp H
  obtain ⟨t394, A40, H⟩ := H
  replace H : (if t394 = true then (if (Int.tmod a2 3) = 0 then ((some (([(⟨#[97]⟩ : ByteArray), (⟨#[95]⟩ : ByteArray), (⟨#[98, 57]⟩ : ByteArray), (⟨#[66, 89]⟩ : ByteArray), (⟨#[116, 114, 117, 101]⟩ : ByteArray)] : List ByteArray) : List ByteArray)).bind fun y395 => (if 0 ≤ (((Int.tdiv a2 3) % 256) % 5) then (if (((Int.tdiv a2 3) % 256) % 5) < (y395.length : Int) then (marshallinglaw07_ExprNames.j0 k (rdOf ByteArray.empty y395 (((Int.tdiv a2 3) % 256) % 5)) a1 t394) else (none)) else (none))) else (marshallinglaw07_ExprNames.j0 k a0 a1 t394)) else (none)) = some r := H
  have A4 := Aside0.mk A40
  clear A40
  by_cases c5 : t394 = true
  · subst c5
    have H1 : (if (Int.tmod a2 3) = 0 then ((some (([(⟨#[97]⟩ : ByteArray), (⟨#[95]⟩ : ByteArray), (⟨#[98, 57]⟩ : ByteArray), (⟨#[66, 89]⟩ : ByteArray), (⟨#[116, 114, 117, 101]⟩ : ByteArray)] : List ByteArray) : List ByteArray)).bind fun y395 => (if 0 ≤ (((Int.tdiv a2 3) % 256) % 5) then (if (((Int.tdiv a2 3) % 256) % 5) < (y395.length : Int) then (marshallinglaw07_ExprNames.j0 k (rdOf ByteArray.empty y395 (((Int.tdiv a2 3) % 256) % 5)) a1 true) else (none)) else (none))) else (marshallinglaw07_ExprNames.j0 k a0 a1 true)) = some r := by rw [if_pos rfl] at H; exact H
    clear H
    have H := H1
    clear H1
    have HC6 := Aside0.mk H
    clear H
    go_enter Tryd.func8, Tryd.ntmps8
    go_upto_if 18 with (first | ((with_reducible refine gate_callee (f := 9) rfl ?_); refine goesL_ (some 13) rfl rfl Tryd.func9 (by kernel_rfl) rfl #[] rfl (by (try simp only [List.map_toArray, List.map_cons, List.map_nil]); first | done | rfl | (simp only [List.length_drop, List.length_take]; rfl)) ?_; (with_reducible refine (marshallinglaw07_examples.calls k  true _ ?side1 A4.out).mono ?_); (case side1 => exact Glob.below HG.out (by repeat (first | (with_reducible first | exact HB.out | apply below_alloc | apply pw_below_drewN | apply below_drew1) | exact HB.out))); clear A4; rintro e w7 ⟨rfl, hb⟩; refine ⟨_, rfl, ?_⟩; have n0_ := Aside0.mk (below_step (by repeat (first | (with_reducible first | exact HB.out | apply below_alloc | apply pw_below_drewN | apply below_drew1) | exact HB.out)) hb); clear HB; have HB := n0_; clear n0_; (try clear hb); (try clear hb2); (try clear hk); (try clear hi)))
    (try simp only [Act.put, List.setIfInBounds_toArray, List.set_cons_zero, List.set_cons_succ])
    go_cut [0] (fun v0 wc => ∃ (kq : Nat) (x0_5 : ByteArray), v0 = .string x0_5 ∧ Aside0 (marshallinglaw07_ExprNames.j0 kq x0_5 a1 true = some r) ∧ Aside0 (kq ≤ k) ∧ Aside0 (Below w.heap.size w wc))
    case first =>
      have H := HC6.out
      clear HC6
      by_cases c8 : (Int.tmod a2 3) = 0
      · rw [if_pos c8] at H
        have c8b0 : ((Int.tmod a2 3) == 0) = true := beq_iff_eq.mpr c8
        have c8b1 : ((Int.tmod a2 3) != 0) = false := bne_eq_false_iff_eq.mpr c8
        clear c8
        (first | rw [c8b0] | (simp only [i64_w, i32_w]; rw [c8b0]) | skip)
        obtain ⟨y395, hy395⟩ : ∃ y_ : List ByteArray, y_ = (([(⟨#[97]⟩ : ByteArray), (⟨#[95]⟩ : ByteArray), (⟨#[98, 57]⟩ : ByteArray), (⟨#[66, 89]⟩ : ByteArray), (⟨#[116, 114, 117, 101]⟩ : ByteArray)] : List ByteArray)) := ⟨_, rfl⟩
        replace H : (if 0 ≤ (((Int.tdiv a2 3) % 256) % 5) then (if (((Int.tdiv a2 3) % 256) % 5) < (y395.length : Int) then (marshallinglaw07_ExprNames.j0 k (rdOf ByteArray.empty y395 (((Int.tdiv a2 3) % 256) % 5)) a1 true) else (none)) else (none)) = some r := by first | (rw [hy395]; with_reducible exact H) | (have H2_ := (Option.bind_some _ _).symm.trans H; rw [hy395]; with_reducible exact H2_) | (have H2_ := (Option.bind_some _ _).symm.trans H; with_reducible exact H2_) | with_reducible exact H | (rw [hy395]; exact H) | exact H
        have Ny395 := Aside0.mk hy395
        clear hy395
        obtain ⟨ji9, hji9⟩ : ∃ j_ : Int, (((Int.tdiv a2 3) % 256) % 5) = j_ := ⟨_, rfl⟩
        replace H : (if 0 ≤ (ji9) then (if (ji9) < (y395.length : Int) then (marshallinglaw07_ExprNames.j0 k (rdOf ByteArray.empty y395 (ji9)) a1 true) else (none)) else (none)) = some r := by first | (rw [hji9] at H; exact H) | (simp only [hji9] at H ⊢; exact H)
        by_cases c10 : 0 ≤ (ji9)
        · rw [if_pos c10] at H
          have c10b0 : decide (0 ≤ (ji9)) = true := decide_eq_true c10
          clear c10
          by_cases c11 : (ji9) < (y395.length : Int)
          · rw [if_pos c11] at H
            have c11b0 : decide ((ji9) < (y395.length : Int)) = true := decide_eq_true c11
            clear c11
            have H' := Aside0.mk H
            clear H
            go_wp2_with (first | ((with_reducible refine gate_dst (N := 19) rfl ?_); (try (refine gate_guard (by rfl) ?_; dsimp only)); refine Kd.R_lit Kd.string _ 9 ?hg (N := 19) ?hd (xs := ([(⟨#[97]⟩ : ByteArray), (⟨#[95]⟩ : ByteArray), (⟨#[98, 57]⟩ : ByteArray), (⟨#[66, 89]⟩ : ByteArray), (⟨#[116, 114, 117, 101]⟩ : ByteArray)] : List ByteArray)) (inner := [.string (⟨#[97]⟩ : ByteArray), .string (⟨#[95]⟩ : ByteArray), .string (⟨#[98, 57]⟩ : ByteArray), .string (⟨#[66, 89]⟩ : ByteArray), .string (⟨#[116, 114, 117, 101]⟩ : ByteArray)]) (ok := fun _ => True) (okp := fun _ => True) ?hr ?hp (fun _ hk => hk) trivial (Below.refl _ _) (Nat.le_refl _) (by simp) ?_; (case hd => rfl); (case hg => rfl); (case hr => first | (go_simp; done) | (go_simp; rfl)); (case hp => exact (Reps.one (show Kd.M Kd.string _ _ _ (⟨#[97]⟩ : ByteArray) [.string (⟨#[97]⟩ : ByteArray)] from rfl) (Reps.one (show Kd.M Kd.string _ _ _ (⟨#[95]⟩ : ByteArray) [.string (⟨#[95]⟩ : ByteArray)] from rfl) (Reps.one (show Kd.M Kd.string _ _ _ (⟨#[98, 57]⟩ : ByteArray) [.string (⟨#[98, 57]⟩ : ByteArray)] from rfl) (Reps.one (show Kd.M Kd.string _ _ _ (⟨#[66, 89]⟩ : ByteArray) [.string (⟨#[66, 89]⟩ : ByteArray)] from rfl) (Reps.one (show Kd.M Kd.string _ _ _ (⟨#[116, 114, 117, 101]⟩ : ByteArray) [.string (⟨#[116, 114, 117, 101]⟩ : ByteArray)] from rfl) (Reps.none _ _))))))); intro v396 w12 ho13 hb hg_ hnew_; clear hg_ hnew_; (first | rw [← Ny395.out] at ho13 | (simp only [Int.reduceToNat] at ho13; rw [← Ny395.out] at ho13)); have n0_ := Aside0.mk (Kd.R_lower ho13 (below_size (by repeat (first | (with_reducible first | exact HB.out | apply below_alloc | apply pw_below_drewN | apply below_drew1) | exact HB.out)))); have n1_ := Aside0.mk (below_step (by repeat (first | (with_reducible first | exact HB.out | apply below_alloc | apply pw_below_drewN | apply below_drew1) | exact HB.out)) hb); clear HB; have HO397 := n0_; have HB := n1_; clear n0_ n1_; clear hb ho13; obtain ⟨Ao14, co14, eo14⟩ := Kd.R_slice HO397.out; subst eo14; have p398 : 0 ≤ ((ji9) : Int) := of_decide_eq_true (by first | (with_reducible assumption) | assumption); have q398 : (ji9) < (y395.length : Int) := of_decide_eq_true (by first | (with_reducible assumption) | assumption); obtain ⟨ad398, e398, hx398_0⟩ := Kd.at_string (Kd.R_reads' HO397.out).2.2 (ji9) p398 q398; cases e398; replace p398 := eq_true p398; replace q398 := eq_true q398))
            go_meet
            case rel => exact ⟨_, (rdOf ByteArray.empty y395 (ji9)), (by first | rfl | (simp; done) | (simp only [i64_w, i32_w]; done) | (simp only [← hji9] <;> (first | rfl | simp)) | (simp [*]; done)), H', ⟨by first | omega | exact Nat.le_refl _⟩, ⟨by repeat (first | (with_reducible first | exact HB.out | apply below_alloc | apply pw_below_drewN | apply below_drew1) | exact HB.out)⟩⟩
          · rw [if_neg c11] at H
            exact absurd H (by simp)
        · rw [if_neg c10] at H
          exact absurd H (by simp)
      · rw [if_neg c8] at H
        have c8b0 : ((Int.tmod a2 3) == 0) = false := beq_eq_false_iff_ne.mpr c8
        have c8b1 : ((Int.tmod a2 3) != 0) = true := bne_iff_ne.mpr c8
        (first | rw [c8b0] | (simp only [i64_w, i32_w]; rw [c8b0]) | skip)
        have H' := Aside0.mk H
        clear H
        go_wp2
        go_meet
        case rel => exact ⟨_, (a0), (by first | rfl | (simp; done) | (simp [*]; done)), H', ⟨by first | omega | exact Nat.le_refl _⟩, ⟨by repeat (first | (with_reducible first | exact HB.out | apply below_alloc | apply pw_below_drewN | apply below_drew1) | exact HB.out)⟩⟩
    case rest =>
      clear HC6
      try clear c1
      try clear p2
      try clear p3
      try clear q3
      try clear hx3
      try clear c5
      try clear c8
      try clear c8b0
      try clear c8b1
      try clear c9
      try clear c10
      try clear c10b0
      try clear c11
      try clear c11b0
      try clear hx398_0
      try clear p398
      try clear q398
      obtain ⟨kq, x0_5, rfl, HA, HJ5, HB⟩ := hcut
      cases kq with
      | zero => exact absurd HA.out (by simp [marshallinglaw07_ExprNames.j0])
      | succ kj5 =>
        have H := HA.out
        clear HA
        simp only [marshallinglaw07_ExprNames.j0] at H
        replace H := Option.bind_eq_some_iff.mp H
        obtain ⟨t401, A150, H⟩ := H
        replace H : ((expr_Right.f kj5 1 (⟨#[]⟩ : ByteArray) 0 0 (⟨#[]⟩ : ByteArray) (⟨#[97]⟩ : ByteArray) a1 ([] : List (S26))).bind fun t402 => (if t401 = true then ((expr_Put.f kj5 2 (⟨#[]⟩ : ByteArray) 0 0 (⟨#[]⟩ : ByteArray) x0_5 (⟨#[]⟩ : ByteArray) ([] : List (S26))).bind fun t403 => (if 1 + x0_5.size ≤ 9223372036854775807 then (if t403.toList = ((⟨#[35]⟩ : ByteArray) ++ x0_5).toList then (if t402 = true then ((expr_Put.f kj5 1 (⟨#[]⟩ : ByteArray) 0 0 (⟨#[]⟩ : ByteArray) x0_5 a1 ([] : List (S26))).bind fun t404 => (if x0_5.size + 1 ≤ 9223372036854775807 then (if (x0_5 ++ (⟨#[46]⟩ : ByteArray)).size + a1.size ≤ 9223372036854775807 then (marshallinglaw07_ExprNames.j1 kj5 x0_5 true t401 t402 (t404.toList != ((x0_5 ++ (⟨#[46]⟩ : ByteArray)) ++ a1).toList) 1 (⟨#[]⟩ : ByteArray) 0 0 (⟨#[]⟩ : ByteArray) x0_5 a1) else (none)) else (none))) else (marshallinglaw07_ExprNames.j1 kj5 x0_5 true t401 t402 false 1 (⟨#[]⟩ : ByteArray) 0 0 (⟨#[]⟩ : ByteArray) x0_5 a1)) else (marshallinglaw07_ExprNames.j1 kj5 x0_5 true t401 t402 true 1 (⟨#[]⟩ : ByteArray) 0 0 (⟨#[]⟩ : ByteArray) x0_5 a1)) else (none))) else (marshallinglaw07_ExprNames.j1 kj5 x0_5 true t401 t402 false 1 (⟨#[]⟩ : ByteArray) 0 0 (⟨#[]⟩ : ByteArray) x0_5 a1))) = some r := H
        have A15 := Aside0.mk A150
        clear A150
        replace H := Option.bind_eq_some_iff.mp H
        obtain ⟨t402, A160, H⟩ := H
        replace H : (if t401 = true then ((expr_Put.f kj5 2 (⟨#[]⟩ : ByteArray) 0 0 (⟨#[]⟩ : ByteArray) x0_5 (⟨#[]⟩ : ByteArray) ([] : List (S26))).bind fun t403 => (if 1 + x0_5.size ≤ 9223372036854775807 then (if t403.toList = ((⟨#[35]⟩ : ByteArray) ++ x0_5).toList then (if t402 = true then ((expr_Put.f kj5 1 (⟨#[]⟩ : ByteArray) 0 0 (⟨#[]⟩ : ByteArray) x0_5 a1 ([] : List (S26))).bind fun t404 => (if x0_5.size + 1 ≤ 9223372036854775807 then (if (x0_5 ++ (⟨#[46]⟩ : ByteArray)).size + a1.size ≤ 9223372036854775807 then (marshallinglaw07_ExprNames.j1 kj5 x0_5 true t401 t402 (t404.toList != ((x0_5 ++ (⟨#[46]⟩ : ByteArray)) ++ a1).toList) 1 (⟨#[]⟩ : ByteArray) 0 0 (⟨#[]⟩ : ByteArray) x0_5 a1) else (none)) else (none))) else (marshallinglaw07_ExprNames.j1 kj5 x0_5 true t401 t402 false 1 (⟨#[]⟩ : ByteArray) 0 0 (⟨#[]⟩ : ByteArray) x0_5 a1)) else (marshallinglaw07_ExprNames.j1 kj5 x0_5 true t401 t402 true 1 (⟨#[]⟩ : ByteArray) 0 0 (⟨#[]⟩ : ByteArray) x0_5 a1)) else (none))) else (marshallinglaw07_ExprNames.j1 kj5 x0_5 true t401 t402 false 1 (⟨#[]⟩ : ByteArray) 0 0 (⟨#[]⟩ : ByteArray) x0_5 a1)) = some r := H
        have A16 := Aside0.mk A160
        clear A160
        have HC17 := Aside0.mk H
        clear H
        go_upto_region 10 with (first | ((with_reducible refine gate_dst (N := 8) rfl ?_); (try (refine gate_guard (by rfl) ?_; dsimp only)); refine box_event ?hg (N := 8) ?hd (cs := #[.int .i64 0, .string (⟨#[]⟩ : ByteArray), .int .i64 0, .int .i64 0, .string (⟨#[]⟩ : ByteArray), .string (⟨#[]⟩ : ByteArray), .string (⟨#[]⟩ : ByteArray), .slice none 0 0]) (t := 26) ?hr ?_; (case hd => rfl); (case hg => rfl); (case hr => first | (go_simp; done) | (go_simp; rfl)); intro gb399 hg w18 hbox hb; have n0_ := Aside0.mk (below_step (by repeat (first | (with_reducible first | exact HB.out | apply below_alloc | apply pw_below_drewN | apply below_drew1) | exact HB.out)) hb); have n1_ := Aside0.mk (hbox); have n2_ := Aside0.mk ((by rw [hg]; exact (below_size (by repeat (first | (with_reducible first | exact HB.out | apply below_alloc | apply pw_below_drewN | apply below_drew1) | exact HB.out))) : w.heap.size ≤ gb399)); have n3_ := Aside0.mk ((by rw [hg]; exact (below_size (by repeat (first | (with_reducible first | exact HB.out | apply below_alloc | apply pw_below_drewN | apply below_drew1) | exact HB.out))) : w.heap.size ≤ gb399)); clear HB; have HB := n0_; have BK399 := n1_; have GW399 := n2_; have GE399 := n3_; clear n0_ n1_ n2_ n3_; clear hb hbox hg; have hcz19_0 : w18.cell? ⟨gb399, 0, none⟩ = some (.int .i64 0) := (blk_cell BK399.out 0).trans rfl; have hcz19_1 : w18.cell? ⟨gb399, 1, none⟩ = some (.string (⟨#[]⟩ : ByteArray)) := (blk_cell BK399.out 1).trans rfl; have hcz19_2 : w18.cell? ⟨gb399, 2, none⟩ = some (.int .i64 0) := (blk_cell BK399.out 2).trans rfl; have hcz19_3 : w18.cell? ⟨gb399, 3, none⟩ = some (.int .i64 0) := (blk_cell BK399.out 3).trans rfl; have hcz19_4 : w18.cell? ⟨gb399, 4, none⟩ = some (.string (⟨#[]⟩ : ByteArray)) := (blk_cell BK399.out 4).trans rfl; have hcz19_5 : w18.cell? ⟨gb399, 5, none⟩ = some (.string (⟨#[]⟩ : ByteArray)) := (blk_cell BK399.out 5).trans rfl; have hcz19_6 : w18.cell? ⟨gb399, 6, none⟩ = some (.string (⟨#[]⟩ : ByteArray)) := (blk_cell BK399.out 6).trans rfl; have hcz19_7 : w18.cell? ⟨gb399, 7, none⟩ = some (.slice none 0 0) := (blk_cell BK399.out 7).trans rfl; have hfz19_0 := blk_frozen BK399.out 0; have hfz19_1 := blk_frozen BK399.out 1; have hfz19_2 := blk_frozen BK399.out 2; have hfz19_3 := blk_frozen BK399.out 3; have hfz19_4 := blk_frozen BK399.out 4; have hfz19_5 := blk_frozen BK399.out 5; have hfz19_6 := blk_frozen BK399.out 6; have hfz19_7 := blk_frozen BK399.out 7) | ((with_reducible refine gate_dst (N := 9) rfl ?_); (try (refine gate_guard (by rfl) ?_; dsimp only)); refine box_event ?hg (N := 9) ?hd (cs := #[.int .i64 0, .string (⟨#[]⟩ : ByteArray), .int .i64 0, .int .i64 0, .string (⟨#[]⟩ : ByteArray), .string (⟨#[]⟩ : ByteArray), .string (⟨#[]⟩ : ByteArray), .slice none 0 0]) (t := 26) ?hr ?_; (case hd => rfl); (case hg => rfl); (case hr => first | (go_simp; done) | (go_simp; rfl)); intro gb400 hg w20 hbox hb; have n0_ := Aside0.mk (blk_below (g := gb399) (o := .cells #[.int .i64 1, .string (⟨#[]⟩ : ByteArray), .int .i64 0, .int .i64 0, .string (⟨#[]⟩ : ByteArray), .string x0_5, .string a1, .slice none 0 0] 26 (0, 0)) (by (with_reducible repeat (first | refine blk_drewN ?_ _ | refine blk_drew ?_ | refine blk_alloc ?_ _)); refine blk_put (cs := #[.int .i64 1, .string (⟨#[]⟩ : ByteArray), .int .i64 0, .int .i64 0, .string (⟨#[]⟩ : ByteArray), .string x0_5, .string a1, .slice none 0 0]) ?_ 7 _ rfl; (with_reducible repeat (first | refine blk_drewN ?_ _ | refine blk_drew ?_ | refine blk_alloc ?_ _)); refine blk_put (cs := #[.int .i64 1, .string (⟨#[]⟩ : ByteArray), .int .i64 0, .int .i64 0, .string (⟨#[]⟩ : ByteArray), .string x0_5, .string (⟨#[]⟩ : ByteArray), .slice none 0 0]) ?_ 6 _ rfl; (with_reducible repeat (first | refine blk_drewN ?_ _ | refine blk_drew ?_ | refine blk_alloc ?_ _)); refine blk_put (cs := #[.int .i64 1, .string (⟨#[]⟩ : ByteArray), .int .i64 0, .int .i64 0, .string (⟨#[]⟩ : ByteArray), .string (⟨#[]⟩ : ByteArray), .string (⟨#[]⟩ : ByteArray), .slice none 0 0]) ?_ 5 _ rfl; (with_reducible repeat (first | refine blk_drewN ?_ _ | refine blk_drew ?_ | refine blk_alloc ?_ _)); refine blk_put (cs := #[.int .i64 1, .string (⟨#[]⟩ : ByteArray), .int .i64 0, .int .i64 0, .string (⟨#[]⟩ : ByteArray), .string (⟨#[]⟩ : ByteArray), .string (⟨#[]⟩ : ByteArray), .slice none 0 0]) ?_ 4 _ rfl; (with_reducible repeat (first | refine blk_drewN ?_ _ | refine blk_drew ?_ | refine blk_alloc ?_ _)); refine blk_put (cs := #[.int .i64 1, .string (⟨#[]⟩ : ByteArray), .int .i64 0, .int .i64 0, .string (⟨#[]⟩ : ByteArray), .string (⟨#[]⟩ : ByteArray), .string (⟨#[]⟩ : ByteArray), .slice none 0 0]) ?_ 3 _ rfl; (with_reducible repeat (first | refine blk_drewN ?_ _ | refine blk_drew ?_ | refine blk_alloc ?_ _)); refine blk_put (cs := #[.int .i64 1, .string (⟨#[]⟩ : ByteArray), .int .i64 0, .int .i64 0, .string (⟨#[]⟩ : ByteArray), .string (⟨#[]⟩ : ByteArray), .string (⟨#[]⟩ : ByteArray), .slice none 0 0]) ?_ 2 _ rfl; (with_reducible repeat (first | refine blk_drewN ?_ _ | refine blk_drew ?_ | refine blk_alloc ?_ _)); refine blk_put (cs := #[.int .i64 1, .string (⟨#[]⟩ : ByteArray), .int .i64 0, .int .i64 0, .string (⟨#[]⟩ : ByteArray), .string (⟨#[]⟩ : ByteArray), .string (⟨#[]⟩ : ByteArray), .slice none 0 0]) ?_ 1 _ rfl; (with_reducible repeat (first | refine blk_drewN ?_ _ | refine blk_drew ?_ | refine blk_alloc ?_ _)); refine blk_put (cs := #[.int .i64 0, .string (⟨#[]⟩ : ByteArray), .int .i64 0, .int .i64 0, .string (⟨#[]⟩ : ByteArray), .string (⟨#[]⟩ : ByteArray), .string (⟨#[]⟩ : ByteArray), .slice none 0 0]) ?_ 0 _ rfl; (with_reducible repeat (first | refine blk_drewN ?_ _ | refine blk_drew ?_ | refine blk_alloc ?_ _)); exact BK399.out) hb); have n1_ := Aside0.mk (below_step (by repeat (first | (with_reducible first | exact HB.out | apply below_alloc | apply pw_below_drewN | apply below_drew1 | refine below_set ?_ GE399.out) | exact HB.out)) hb); have n2_ := Aside0.mk (hbox); have n3_ := Aside0.mk ((by rw [hg]; exact (below_size (by repeat (first | (with_reducible first | exact HB.out | apply below_alloc | apply pw_below_drewN | apply below_drew1 | refine below_set ?_ GE399.out) | exact HB.out))) : w.heap.size ≤ gb400)); have n4_ := Aside0.mk ((by rw [hg]; exact (below_size (by repeat (first | (with_reducible first | exact HB.out | apply below_alloc | apply pw_below_drewN | apply below_drew1 | refine below_set ?_ GE399.out) | exact HB.out))) : w.heap.size ≤ gb400)); have n5_ := Aside0.mk ((by rw [hg]; exact Nat.ne_of_lt (blk_lt (g := gb399) (o := .cells #[.int .i64 1, .string (⟨#[]⟩ : ByteArray), .int .i64 0, .int .i64 0, .string (⟨#[]⟩ : ByteArray), .string x0_5, .string a1, .slice none 0 0] 26 (0, 0)) (by (with_reducible repeat (first | refine blk_drewN ?_ _ | refine blk_drew ?_ | refine blk_alloc ?_ _)); refine blk_put (cs := #[.int .i64 1, .string (⟨#[]⟩ : ByteArray), .int .i64 0, .int .i64 0, .string (⟨#[]⟩ : ByteArray), .string x0_5, .string a1, .slice none 0 0]) ?_ 7 _ rfl; (with_reducible repeat (first | refine blk_drewN ?_ _ | refine blk_drew ?_ | refine blk_alloc ?_ _)); refine blk_put (cs := #[.int .i64 1, .string (⟨#[]⟩ : ByteArray), .int .i64 0, .int .i64 0, .string (⟨#[]⟩ : ByteArray), .string x0_5, .string (⟨#[]⟩ : ByteArray), .slice none 0 0]) ?_ 6 _ rfl; (with_reducible repeat (first | refine blk_drewN ?_ _ | refine blk_drew ?_ | refine blk_alloc ?_ _)); refine blk_put (cs := #[.int .i64 1, .string (⟨#[]⟩ : ByteArray), .int .i64 0, .int .i64 0, .string (⟨#[]⟩ : ByteArray), .string (⟨#[]⟩ : ByteArray), .string (⟨#[]⟩ : ByteArray), .slice none 0 0]) ?_ 5 _ rfl; (with_reducible repeat (first | refine blk_drewN ?_ _ | refine blk_drew ?_ | refine blk_alloc ?_ _)); refine blk_put (cs := #[.int .i64 1, .string (⟨#[]⟩ : ByteArray), .int .i64 0, .int .i64 0, .string (⟨#[]⟩ : ByteArray), .string (⟨#[]⟩ : ByteArray), .string (⟨#[]⟩ : ByteArray), .slice none 0 0]) ?_ 4 _ rfl; (with_reducible repeat (first | refine blk_drewN ?_ _ | refine blk_drew ?_ | refine blk_alloc ?_ _)); refine blk_put (cs := #[.int .i64 1, .string (⟨#[]⟩ : ByteArray), .int .i64 0, .int .i64 0, .string (⟨#[]⟩ : ByteArray), .string (⟨#[]⟩ : ByteArray), .string (⟨#[]⟩ : ByteArray), .slice none 0 0]) ?_ 3 _ rfl; (with_reducible repeat (first | refine blk_drewN ?_ _ | refine blk_drew ?_ | refine blk_alloc ?_ _)); refine blk_put (cs := #[.int .i64 1, .string (⟨#[]⟩ : ByteArray), .int .i64 0, .int .i64 0, .string (⟨#[]⟩ : ByteArray), .string (⟨#[]⟩ : ByteArray), .string (⟨#[]⟩ : ByteArray), .slice none 0 0]) ?_ 2 _ rfl; (with_reducible repeat (first | refine blk_drewN ?_ _ | refine blk_drew ?_ | refine blk_alloc ?_ _)); refine blk_put (cs := #[.int .i64 1, .string (⟨#[]⟩ : ByteArray), .int .i64 0, .int .i64 0, .string (⟨#[]⟩ : ByteArray), .string (⟨#[]⟩ : ByteArray), .string (⟨#[]⟩ : ByteArray), .slice none 0 0]) ?_ 1 _ rfl; (with_reducible repeat (first | refine blk_drewN ?_ _ | refine blk_drew ?_ | refine blk_alloc ?_ _)); refine blk_put (cs := #[.int .i64 0, .string (⟨#[]⟩ : ByteArray), .int .i64 0, .int .i64 0, .string (⟨#[]⟩ : ByteArray), .string (⟨#[]⟩ : ByteArray), .string (⟨#[]⟩ : ByteArray), .slice none 0 0]) ?_ 0 _ rfl; (with_reducible repeat (first | refine blk_drewN ?_ _ | refine blk_drew ?_ | refine blk_alloc ?_ _)); exact BK399.out)) : gb399 ≠ gb400)); have n6_ := Aside0.mk ((by rw [hg]; exact Nat.ne_of_gt (blk_lt (g := gb399) (o := .cells #[.int .i64 1, .string (⟨#[]⟩ : ByteArray), .int .i64 0, .int .i64 0, .string (⟨#[]⟩ : ByteArray), .string x0_5, .string a1, .slice none 0 0] 26 (0, 0)) (by (with_reducible repeat (first | refine blk_drewN ?_ _ | refine blk_drew ?_ | refine blk_alloc ?_ _)); refine blk_put (cs := #[.int .i64 1, .string (⟨#[]⟩ : ByteArray), .int .i64 0, .int .i64 0, .string (⟨#[]⟩ : ByteArray), .string x0_5, .string a1, .slice none 0 0]) ?_ 7 _ rfl; (with_reducible repeat (first | refine blk_drewN ?_ _ | refine blk_drew ?_ | refine blk_alloc ?_ _)); refine blk_put (cs := #[.int .i64 1, .string (⟨#[]⟩ : ByteArray), .int .i64 0, .int .i64 0, .string (⟨#[]⟩ : ByteArray), .string x0_5, .string (⟨#[]⟩ : ByteArray), .slice none 0 0]) ?_ 6 _ rfl; (with_reducible repeat (first | refine blk_drewN ?_ _ | refine blk_drew ?_ | refine blk_alloc ?_ _)); refine blk_put (cs := #[.int .i64 1, .string (⟨#[]⟩ : ByteArray), .int .i64 0, .int .i64 0, .string (⟨#[]⟩ : ByteArray), .string (⟨#[]⟩ : ByteArray), .string (⟨#[]⟩ : ByteArray), .slice none 0 0]) ?_ 5 _ rfl; (with_reducible repeat (first | refine blk_drewN ?_ _ | refine blk_drew ?_ | refine blk_alloc ?_ _)); refine blk_put (cs := #[.int .i64 1, .string (⟨#[]⟩ : ByteArray), .int .i64 0, .int .i64 0, .string (⟨#[]⟩ : ByteArray), .string (⟨#[]⟩ : ByteArray), .string (⟨#[]⟩ : ByteArray), .slice none 0 0]) ?_ 4 _ rfl; (with_reducible repeat (first | refine blk_drewN ?_ _ | refine blk_drew ?_ | refine blk_alloc ?_ _)); refine blk_put (cs := #[.int .i64 1, .string (⟨#[]⟩ : ByteArray), .int .i64 0, .int .i64 0, .string (⟨#[]⟩ : ByteArray), .string (⟨#[]⟩ : ByteArray), .string (⟨#[]⟩ : ByteArray), .slice none 0 0]) ?_ 3 _ rfl; (with_reducible repeat (first | refine blk_drewN ?_ _ | refine blk_drew ?_ | refine blk_alloc ?_ _)); refine blk_put (cs := #[.int .i64 1, .string (⟨#[]⟩ : ByteArray), .int .i64 0, .int .i64 0, .string (⟨#[]⟩ : ByteArray), .string (⟨#[]⟩ : ByteArray), .string (⟨#[]⟩ : ByteArray), .slice none 0 0]) ?_ 2 _ rfl; (with_reducible repeat (first | refine blk_drewN ?_ _ | refine blk_drew ?_ | refine blk_alloc ?_ _)); refine blk_put (cs := #[.int .i64 1, .string (⟨#[]⟩ : ByteArray), .int .i64 0, .int .i64 0, .string (⟨#[]⟩ : ByteArray), .string (⟨#[]⟩ : ByteArray), .string (⟨#[]⟩ : ByteArray), .slice none 0 0]) ?_ 1 _ rfl; (with_reducible repeat (first | refine blk_drewN ?_ _ | refine blk_drew ?_ | refine blk_alloc ?_ _)); refine blk_put (cs := #[.int .i64 0, .string (⟨#[]⟩ : ByteArray), .int .i64 0, .int .i64 0, .string (⟨#[]⟩ : ByteArray), .string (⟨#[]⟩ : ByteArray), .string (⟨#[]⟩ : ByteArray), .slice none 0 0]) ?_ 0 _ rfl; (with_reducible repeat (first | refine blk_drewN ?_ _ | refine blk_drew ?_ | refine blk_alloc ?_ _)); exact BK399.out)) : gb400 ≠ gb399)); clear BK399; clear HB; have BK399 := n0_; have HB := n1_; have BK400 := n2_; have GW400 := n3_; have GE400 := n4_; have NB399_400 := n5_; have NB400_399 := n6_; clear n0_ n1_ n2_ n3_ n4_ n5_ n6_; clear hb hbox hg; have hnb21 := NB400_399.out; have hnc21 := NB399_400.out; have hcz22_0 : w20.cell? ⟨gb400, 0, none⟩ = some (.int .i64 0) := (blk_cell BK400.out 0).trans rfl; have hcz22_1 : w20.cell? ⟨gb400, 1, none⟩ = some (.string (⟨#[]⟩ : ByteArray)) := (blk_cell BK400.out 1).trans rfl; have hcz22_2 : w20.cell? ⟨gb400, 2, none⟩ = some (.int .i64 0) := (blk_cell BK400.out 2).trans rfl; have hcz22_3 : w20.cell? ⟨gb400, 3, none⟩ = some (.int .i64 0) := (blk_cell BK400.out 3).trans rfl; have hcz22_4 : w20.cell? ⟨gb400, 4, none⟩ = some (.string (⟨#[]⟩ : ByteArray)) := (blk_cell BK400.out 4).trans rfl; have hcz22_5 : w20.cell? ⟨gb400, 5, none⟩ = some (.string (⟨#[]⟩ : ByteArray)) := (blk_cell BK400.out 5).trans rfl; have hcz22_6 : w20.cell? ⟨gb400, 6, none⟩ = some (.string (⟨#[]⟩ : ByteArray)) := (blk_cell BK400.out 6).trans rfl; have hcz22_7 : w20.cell? ⟨gb400, 7, none⟩ = some (.slice none 0 0) := (blk_cell BK400.out 7).trans rfl; have hfz22_0 := blk_frozen BK400.out 0; have hfz22_1 := blk_frozen BK400.out 1; have hfz22_2 := blk_frozen BK400.out 2; have hfz22_3 := blk_frozen BK400.out 3; have hfz22_4 := blk_frozen BK400.out 4; have hfz22_5 := blk_frozen BK400.out 5; have hfz22_6 := blk_frozen BK400.out 6; have hfz22_7 := blk_frozen BK400.out 7) | ((with_reducible refine gate_callee (f := 12) rfl ?_); refine goesL_ (some 31) rfl rfl Tryd.func12 (by kernel_rfl) rfl #[.agg #[.int .i64 2, .string (⟨#[]⟩ : ByteArray), .int .i64 0, .int .i64 0, .string (⟨#[]⟩ : ByteArray), .string x0_5, .string (⟨#[]⟩ : ByteArray), .slice none 0 0]] rfl (by (try simp only [List.map_toArray, List.map_cons, List.map_nil]); first | done | rfl | (simp only [List.length_drop, List.length_take]; rfl)) ?_; (refine (expr_Right.calls kj5 2 (⟨#[]⟩ : ByteArray) 0 0 (⟨#[]⟩ : ByteArray) x0_5 (⟨#[]⟩ : ByteArray) _ _ ([] : List (S26)) t401 _ ?side1 ?side2 ?side3 A15.out).mono ?_); (case side1 => exact Kd.C_nil _ _); (case side2 => exact Nat.le_refl _); (case side3 => exact Glob.below HG.out (by repeat (first | (with_reducible first | exact HB.out | apply below_alloc | apply pw_below_drewN | apply below_drew1 | refine below_set ?_ GE399.out | refine below_set ?_ GE400.out) | exact HB.out))); clear A15; rintro e w23 ⟨rfl, hb⟩; refine ⟨_, rfl, ?_⟩; have n0_ := Aside0.mk (blk_below (g := gb399) (o := .cells #[.int .i64 1, .string (⟨#[]⟩ : ByteArray), .int .i64 0, .int .i64 0, .string (⟨#[]⟩ : ByteArray), .string x0_5, .string a1, .slice none 0 0] 26 (0, 0)) (by (with_reducible repeat (first | refine blk_drewN ?_ _ | refine blk_drew ?_ | refine blk_alloc ?_ _)); refine blk_far ?_ NB399_400.out _; (with_reducible repeat (first | refine blk_drewN ?_ _ | refine blk_drew ?_ | refine blk_alloc ?_ _)); refine blk_far ?_ NB399_400.out _; (with_reducible repeat (first | refine blk_drewN ?_ _ | refine blk_drew ?_ | refine blk_alloc ?_ _)); refine blk_far ?_ NB399_400.out _; (with_reducible repeat (first | refine blk_drewN ?_ _ | refine blk_drew ?_ | refine blk_alloc ?_ _)); refine blk_far ?_ NB399_400.out _; (with_reducible repeat (first | refine blk_drewN ?_ _ | refine blk_drew ?_ | refine blk_alloc ?_ _)); refine blk_far ?_ NB399_400.out _; (with_reducible repeat (first | refine blk_drewN ?_ _ | refine blk_drew ?_ | refine blk_alloc ?_ _)); refine blk_far ?_ NB399_400.out _; (with_reducible repeat (first | refine blk_drewN ?_ _ | refine blk_drew ?_ | refine blk_alloc ?_ _)); refine blk_far ?_ NB399_400.out _; (with_reducible repeat (first | refine blk_drewN ?_ _ | refine blk_drew ?_ | refine blk_alloc ?_ _)); refine blk_far ?_ NB399_400.out _; (with_reducible repeat (first | refine blk_drewN ?_ _ | refine blk_drew ?_ | refine blk_alloc ?_ _)); exact BK399.out) hb); have n1_ := Aside0.mk (blk_below (g := gb400) (o := .cells #[.int .i64 2, .string (⟨#[]⟩ : ByteArray), .int .i64 0, .int .i64 0, .string (⟨#[]⟩ : ByteArray), .string x0_5, .string (⟨#[]⟩ : ByteArray), .slice none 0 0] 26 (0, 0)) (by (with_reducible repeat (first | refine blk_drewN ?_ _ | refine blk_drew ?_ | refine blk_alloc ?_ _)); refine blk_put (cs := #[.int .i64 2, .string (⟨#[]⟩ : ByteArray), .int .i64 0, .int .i64 0, .string (⟨#[]⟩ : ByteArray), .string x0_5, .string (⟨#[]⟩ : ByteArray), .slice none 0 0]) ?_ 7 _ rfl; (with_reducible repeat (first | refine blk_drewN ?_ _ | refine blk_drew ?_ | refine blk_alloc ?_ _)); refine blk_put (cs := #[.int .i64 2, .string (⟨#[]⟩ : ByteArray), .int .i64 0, .int .i64 0, .string (⟨#[]⟩ : ByteArray), .string x0_5, .string (⟨#[]⟩ : ByteArray), .slice none 0 0]) ?_ 6 _ rfl; (with_reducible repeat (first | refine blk_drewN ?_ _ | refine blk_drew ?_ | refine blk_alloc ?_ _)); refine blk_put (cs := #[.int .i64 2, .string (⟨#[]⟩ : ByteArray), .int .i64 0, .int .i64 0, .string (⟨#[]⟩ : ByteArray), .string (⟨#[]⟩ : ByteArray), .string (⟨#[]⟩ : ByteArray), .slice none 0 0]) ?_ 5 _ rfl; (with_reducible repeat (first | refine blk_drewN ?_ _ | refine blk_drew ?_ | refine blk_alloc ?_ _)); refine blk_put (cs := #[.int .i64 2, .string (⟨#[]⟩ : ByteArray), .int .i64 0, .int .i64 0, .string (⟨#[]⟩ : ByteArray), .string (⟨#[]⟩ : ByteArray), .string (⟨#[]⟩ : ByteArray), .slice none 0 0]) ?_ 4 _ rfl; (with_reducible repeat (first | refine blk_drewN ?_ _ | refine blk_drew ?_ | refine blk_alloc ?_ _)); refine blk_put (cs := #[.int .i64 2, .string (⟨#[]⟩ : ByteArray), .int .i64 0, .int .i64 0, .string (⟨#[]⟩ : ByteArray), .string (⟨#[]⟩ : ByteArray), .string (⟨#[]⟩ : ByteArray), .slice none 0 0]) ?_ 3 _ rfl; (with_reducible repeat (first | refine blk_drewN ?_ _ | refine blk_drew ?_ | refine blk_alloc ?_ _)); refine blk_put (cs := #[.int .i64 2, .string (⟨#[]⟩ : ByteArray), .int .i64 0, .int .i64 0, .string (⟨#[]⟩ : ByteArray), .string (⟨#[]⟩ : ByteArray), .string (⟨#[]⟩ : ByteArray), .slice none 0 0]) ?_ 2 _ rfl; (with_reducible repeat (first | refine blk_drewN ?_ _ | refine blk_drew ?_ | refine blk_alloc ?_ _)); refine blk_put (cs := #[.int .i64 2, .string (⟨#[]⟩ : ByteArray), .int .i64 0, .int .i64 0, .string (⟨#[]⟩ : ByteArray), .string (⟨#[]⟩ : ByteArray), .string (⟨#[]⟩ : ByteArray), .slice none 0 0]) ?_ 1 _ rfl; (with_reducible repeat (first | refine blk_drewN ?_ _ | refine blk_drew ?_ | refine blk_alloc ?_ _)); refine blk_put (cs := #[.int .i64 0, .string (⟨#[]⟩ : ByteArray), .int .i64 0, .int .i64 0, .string (⟨#[]⟩ : ByteArray), .string (⟨#[]⟩ : ByteArray), .string (⟨#[]⟩ : ByteArray), .slice none 0 0]) ?_ 0 _ rfl; (with_reducible repeat (first | refine blk_drewN ?_ _ | refine blk_drew ?_ | refine blk_alloc ?_ _)); exact BK400.out) hb); have n2_ := Aside0.mk (below_step (by repeat (first | (with_reducible first | exact HB.out | apply below_alloc | apply pw_below_drewN | apply below_drew1 | refine below_set ?_ GE399.out | refine below_set ?_ GE400.out) | exact HB.out)) hb); clear BK399; clear BK400; clear HB; have BK399 := n0_; have BK400 := n1_; have HB := n2_; clear n0_ n1_ n2_; (try clear hb); (try clear hb2); (try clear hk); (try clear hi)) | ((with_reducible refine gate_callee (f := 12) rfl ?_); refine goesL_ (some 34) rfl rfl Tryd.func12 (by kernel_rfl) rfl #[.agg #[.int .i64 1, .string (⟨#[]⟩ : ByteArray), .int .i64 0, .int .i64 0, .string (⟨#[]⟩ : ByteArray), .string (⟨#[97]⟩ : ByteArray), .string a1, .slice none 0 0]] rfl (by (try simp only [List.map_toArray, List.map_cons, List.map_nil]); first | done | rfl | (simp only [List.length_drop, List.length_take]; rfl)) ?_; (refine (expr_Right.calls kj5 1 (⟨#[]⟩ : ByteArray) 0 0 (⟨#[]⟩ : ByteArray) (⟨#[97]⟩ : ByteArray) a1 _ _ ([] : List (S26)) t402 _ ?side1 ?side2 ?side3 A16.out).mono ?_); (case side1 => exact Kd.C_nil _ _); (case side2 => exact Nat.le_refl _); (case side3 => exact Glob.below HG.out (by repeat (first | (with_reducible first | exact HB.out | apply below_alloc | apply pw_below_drewN | apply below_drew1 | refine below_set ?_ GE399.out | refine below_set ?_ GE400.out) | exact HB.out))); clear A16; rintro e w24 ⟨rfl, hb⟩; refine ⟨_, rfl, ?_⟩; have n0_ := Aside0.mk (blk_below (g := gb399) (o := .cells #[.int .i64 1, .string (⟨#[]⟩ : ByteArray), .int .i64 0, .int .i64 0, .string (⟨#[]⟩ : ByteArray), .string x0_5, .string a1, .slice none 0 0] 26 (0, 0)) (by (with_reducible repeat (first | refine blk_drewN ?_ _ | refine blk_drew ?_ | refine blk_alloc ?_ _)); exact BK399.out) hb); have n1_ := Aside0.mk (blk_below (g := gb400) (o := .cells #[.int .i64 2, .string (⟨#[]⟩ : ByteArray), .int .i64 0, .int .i64 0, .string (⟨#[]⟩ : ByteArray), .string x0_5, .string (⟨#[]⟩ : ByteArray), .slice none 0 0] 26 (0, 0)) (by (with_reducible repeat (first | refine blk_drewN ?_ _ | refine blk_drew ?_ | refine blk_alloc ?_ _)); exact BK400.out) hb); have n2_ := Aside0.mk (below_step (by repeat (first | (with_reducible first | exact HB.out | apply below_alloc | apply pw_below_drewN | apply below_drew1 | refine below_set ?_ GE399.out | refine below_set ?_ GE400.out) | exact HB.out)) hb); clear BK399; clear BK400; clear HB; have BK399 := n0_; have BK400 := n1_; have HB := n2_; clear n0_ n1_ n2_; (try clear hb); (try clear hb2); (try clear hk); (try clear hi)))
        (try simp only [Act.put, List.setIfInBounds_toArray, List.set_cons_zero, List.set_cons_succ])
        go_cut [57] (fun v57 wc => ∃ (kq : Nat) (x57_16 : Bool), v57 = .bool x57_16 ∧ Aside0 (marshallinglaw07_ExprNames.j1 kq x0_5 true t401 t402 x57_16 1 (⟨#[]⟩ : ByteArray) 0 0 (⟨#[]⟩ : ByteArray) x0_5 a1 = some r) ∧ Aside0 (kq ≤ kj5) ∧ Aside0 (wc.heap[gb399]? = some (.cells #[.int .i64 1, .string (⟨#[]⟩ : ByteArray), .int .i64 0, .int .i64 0, .string (⟨#[]⟩ : ByteArray), .string x0_5, .string a1, (.slice none 0 0)] 26 (0, 0))) ∧ Aside0 (wc.heap[gb400]? = some (.cells #[.int .i64 2, .string (⟨#[]⟩ : ByteArray), .int .i64 0, .int .i64 0, .string (⟨#[]⟩ : ByteArray), .string x0_5, .string (⟨#[]⟩ : ByteArray), (.slice none 0 0)] 26 (0, 0))) ∧ Aside0 (Below w.heap.size w wc))
        case first =>
          have H := HC17.out
          clear HC17
          by_cases c25 : t401 = true
          · subst c25
            have H1 : ((expr_Put.f kj5 2 (⟨#[]⟩ : ByteArray) 0 0 (⟨#[]⟩ : ByteArray) x0_5 (⟨#[]⟩ : ByteArray) ([] : List (S26))).bind fun t403 => (if 1 + x0_5.size ≤ 9223372036854775807 then (if t403.toList = ((⟨#[35]⟩ : ByteArray) ++ x0_5).toList then (if t402 = true then ((expr_Put.f kj5 1 (⟨#[]⟩ : ByteArray) 0 0 (⟨#[]⟩ : ByteArray) x0_5 a1 ([] : List (S26))).bind fun t404 => (if x0_5.size + 1 ≤ 9223372036854775807 then (if (x0_5 ++ (⟨#[46]⟩ : ByteArray)).size + a1.size ≤ 9223372036854775807 then (marshallinglaw07_ExprNames.j1 kj5 x0_5 true true t402 (t404.toList != ((x0_5 ++ (⟨#[46]⟩ : ByteArray)) ++ a1).toList) 1 (⟨#[]⟩ : ByteArray) 0 0 (⟨#[]⟩ : ByteArray) x0_5 a1) else (none)) else (none))) else (marshallinglaw07_ExprNames.j1 kj5 x0_5 true true t402 false 1 (⟨#[]⟩ : ByteArray) 0 0 (⟨#[]⟩ : ByteArray) x0_5 a1)) else (marshallinglaw07_ExprNames.j1 kj5 x0_5 true true t402 true 1 (⟨#[]⟩ : ByteArray) 0 0 (⟨#[]⟩ : ByteArray) x0_5 a1)) else (none))) = some r := by rw [if_pos rfl] at H; exact H
            clear H
            have H := H1
            clear H1
            replace H := Option.bind_eq_some_iff.mp H
            obtain ⟨t403, A260, H⟩ := H
            replace H : (if 1 + x0_5.size ≤ 9223372036854775807 then (if t403.toList = ((⟨#[35]⟩ : ByteArray) ++ x0_5).toList then (if t402 = true then ((expr_Put.f kj5 1 (⟨#[]⟩ : ByteArray) 0 0 (⟨#[]⟩ : ByteArray) x0_5 a1 ([] : List (S26))).bind fun t404 => (if x0_5.size + 1 ≤ 9223372036854775807 then (if (x0_5 ++ (⟨#[46]⟩ : ByteArray)).size + a1.size ≤ 9223372036854775807 then (marshallinglaw07_ExprNames.j1 kj5 x0_5 true true t402 (t404.toList != ((x0_5 ++ (⟨#[46]⟩ : ByteArray)) ++ a1).toList) 1 (⟨#[]⟩ : ByteArray) 0 0 (⟨#[]⟩ : ByteArray) x0_5 a1) else (none)) else (none))) else (marshallinglaw07_ExprNames.j1 kj5 x0_5 true true t402 false 1 (⟨#[]⟩ : ByteArray) 0 0 (⟨#[]⟩ : ByteArray) x0_5 a1)) else (marshallinglaw07_ExprNames.j1 kj5 x0_5 true true t402 true 1 (⟨#[]⟩ : ByteArray) 0 0 (⟨#[]⟩ : ByteArray) x0_5 a1)) else (none)) = some r := H
            have A26 := Aside0.mk A260
            clear A260
            by_cases c27 : 1 + x0_5.size ≤ 9223372036854775807
            · rw [if_pos c27] at H
              have c27b0 := eq_true c27
              have c27b1 : decide (1 + x0_5.size ≤ 9223372036854775807) = true := decide_eq_true c27
              try have c27b2 : (9223372036854775807 < 1 + x0_5.size) = False := eq_false (Nat.not_lt.2 c27)
              by_cases c28 : t403.toList = ((⟨#[35]⟩ : ByteArray) ++ x0_5).toList
              · rw [if_pos c28] at H
                have c28b0 : (t403.toList == ((⟨#[35]⟩ : ByteArray) ++ x0_5).toList) = true := beq_iff_eq.mpr c28
                have c28b1 : (t403.toList != ((⟨#[35]⟩ : ByteArray) ++ x0_5).toList) = false := bne_eq_false_iff_eq.mpr c28
                clear c28
                (first | rw [c28b0] | (simp only [i64_w, i32_w]; rw [c28b0]) | skip)
                by_cases c29 : t402 = true
                · subst c29
                  have H1 : ((expr_Put.f kj5 1 (⟨#[]⟩ : ByteArray) 0 0 (⟨#[]⟩ : ByteArray) x0_5 a1 ([] : List (S26))).bind fun t404 => (if x0_5.size + 1 ≤ 9223372036854775807 then (if (x0_5 ++ (⟨#[46]⟩ : ByteArray)).size + a1.size ≤ 9223372036854775807 then (marshallinglaw07_ExprNames.j1 kj5 x0_5 true true true (t404.toList != ((x0_5 ++ (⟨#[46]⟩ : ByteArray)) ++ a1).toList) 1 (⟨#[]⟩ : ByteArray) 0 0 (⟨#[]⟩ : ByteArray) x0_5 a1) else (none)) else (none))) = some r := by rw [if_pos rfl] at H; exact H
                  clear H
                  have H := H1
                  clear H1
                  replace H := Option.bind_eq_some_iff.mp H
                  obtain ⟨t404, A300, H⟩ := H
                  replace H : (if x0_5.size + 1 ≤ 9223372036854775807 then (if (x0_5 ++ (⟨#[46]⟩ : ByteArray)).size + a1.size ≤ 9223372036854775807 then (marshallinglaw07_ExprNames.j1 kj5 x0_5 true true true (t404.toList != ((x0_5 ++ (⟨#[46]⟩ : ByteArray)) ++ a1).toList) 1 (⟨#[]⟩ : ByteArray) 0 0 (⟨#[]⟩ : ByteArray) x0_5 a1) else (none)) else (none)) = some r := H
                  have A30 := Aside0.mk A300
                  clear A300
                  by_cases c31 : x0_5.size + 1 ≤ 9223372036854775807
                  · rw [if_pos c31] at H
                    have c31b0 := eq_true c31
                    have c31b1 : decide (x0_5.size + 1 ≤ 9223372036854775807) = true := decide_eq_true c31
                    try have c31b2 : (9223372036854775807 < x0_5.size + 1) = False := eq_false (Nat.not_lt.2 c31)
                    by_cases c32 : (x0_5 ++ (⟨#[46]⟩ : ByteArray)).size + a1.size ≤ 9223372036854775807
                    · rw [if_pos c32] at H
                      have c32b0 := eq_true c32
                      have c32b1 : decide ((x0_5 ++ (⟨#[46]⟩ : ByteArray)).size + a1.size ≤ 9223372036854775807) = true := decide_eq_true c32
                      try have c32b2 : (9223372036854775807 < (x0_5 ++ (⟨#[46]⟩ : ByteArray)).size + a1.size) = False := eq_false (Nat.not_lt.2 c32)
                      try have c32b3 : (9223372036854775807 < x0_5.size + 1 + a1.size) = False := eq_false (Nat.not_lt.2 (by have h_ := c32; simp only [ByteArray.size_append] at h_; exact h_))
                      have H' := Aside0.mk H
                      clear H
                      have hnb33 := NB400_399.out
                      have hnc33 := NB399_400.out
                      have hcz34_0 : w24.cell? ⟨gb400, 0, none⟩ = some (.int .i64 2) := (blk_cell BK400.out 0).trans rfl
                      have hcz34_1 : w24.cell? ⟨gb400, 1, none⟩ = some (.string (⟨#[]⟩ : ByteArray)) := (blk_cell BK400.out 1).trans rfl
                      have hcz34_2 : w24.cell? ⟨gb400, 2, none⟩ = some (.int .i64 0) := (blk_cell BK400.out 2).trans rfl
                      have hcz34_3 : w24.cell? ⟨gb400, 3, none⟩ = some (.int .i64 0) := (blk_cell BK400.out 3).trans rfl
                      have hcz34_4 : w24.cell? ⟨gb400, 4, none⟩ = some (.string (⟨#[]⟩ : ByteArray)) := (blk_cell BK400.out 4).trans rfl
                      have hcz34_5 : w24.cell? ⟨gb400, 5, none⟩ = some (.string x0_5) := (blk_cell BK400.out 5).trans rfl
                      have hcz34_6 : w24.cell? ⟨gb400, 6, none⟩ = some (.string (⟨#[]⟩ : ByteArray)) := (blk_cell BK400.out 6).trans rfl
                      have hcz34_7 : w24.cell? ⟨gb400, 7, none⟩ = some (.slice none 0 0) := (blk_cell BK400.out 7).trans rfl
                      have hfz34_0 := blk_frozen BK400.out 0
                      have hfz34_1 := blk_frozen BK400.out 1
                      have hfz34_2 := blk_frozen BK400.out 2
                      have hfz34_3 := blk_frozen BK400.out 3
                      have hfz34_4 := blk_frozen BK400.out 4
                      have hfz34_5 := blk_frozen BK400.out 5
                      have hfz34_6 := blk_frozen BK400.out 6
                      have hfz34_7 := blk_frozen BK400.out 7
                      go_wp2_with (first | (go_at_call 13; (refine (expr_Put.calls kj5 2 (⟨#[]⟩ : ByteArray) 0 0 (⟨#[]⟩ : ByteArray) x0_5 (⟨#[]⟩ : ByteArray) _ _ ([] : List (S26)) t403 _ ?side1 ?side2 ?side3 A26.out).mono ?_); (case side1 => exact Kd.C_nil _ _); (case side2 => exact Nat.le_refl _); (case side3 => exact Glob.below HG.out (by repeat (first | (with_reducible first | exact HB.out | apply below_alloc | apply pw_below_drewN | apply below_drew1 | refine below_set ?_ GE399.out | refine below_set ?_ GE400.out) | exact HB.out))); clear A26; rintro e w35 ⟨rfl, hb⟩; have n0_ := Aside0.mk (blk_below (g := gb399) (o := .cells #[.int .i64 1, .string (⟨#[]⟩ : ByteArray), .int .i64 0, .int .i64 0, .string (⟨#[]⟩ : ByteArray), .string x0_5, .string a1, .slice none 0 0] 26 (0, 0)) (by (with_reducible repeat (first | refine blk_drewN ?_ _ | refine blk_drew ?_ | refine blk_alloc ?_ _)); exact BK399.out) hb); have n1_ := Aside0.mk (blk_below (g := gb400) (o := .cells #[.int .i64 2, .string (⟨#[]⟩ : ByteArray), .int .i64 0, .int .i64 0, .string (⟨#[]⟩ : ByteArray), .string x0_5, .string (⟨#[]⟩ : ByteArray), .slice none 0 0] 26 (0, 0)) (by (with_reducible repeat (first | refine blk_drewN ?_ _ | refine blk_drew ?_ | refine blk_alloc ?_ _)); exact BK400.out) hb); have n2_ := Aside0.mk (below_step (by repeat (first | (with_reducible first | exact HB.out | apply below_alloc | apply pw_below_drewN | apply below_drew1 | refine below_set ?_ GE399.out | refine below_set ?_ GE400.out) | exact HB.out)) hb); clear BK399; clear BK400; clear HB; have BK399 := n0_; have BK400 := n1_; have HB := n2_; clear n0_ n1_ n2_; (try clear hb); (try clear hb2); (try clear hk); (try clear hi); have hcz36_0 : w35.cell? ⟨gb399, 0, none⟩ = some (.int .i64 1) := (blk_cell BK399.out 0).trans rfl; have hcz36_1 : w35.cell? ⟨gb399, 1, none⟩ = some (.string (⟨#[]⟩ : ByteArray)) := (blk_cell BK399.out 1).trans rfl; have hcz36_2 : w35.cell? ⟨gb399, 2, none⟩ = some (.int .i64 0) := (blk_cell BK399.out 2).trans rfl; have hcz36_3 : w35.cell? ⟨gb399, 3, none⟩ = some (.int .i64 0) := (blk_cell BK399.out 3).trans rfl; have hcz36_4 : w35.cell? ⟨gb399, 4, none⟩ = some (.string (⟨#[]⟩ : ByteArray)) := (blk_cell BK399.out 4).trans rfl; have hcz36_5 : w35.cell? ⟨gb399, 5, none⟩ = some (.string x0_5) := (blk_cell BK399.out 5).trans rfl; have hcz36_6 : w35.cell? ⟨gb399, 6, none⟩ = some (.string a1) := (blk_cell BK399.out 6).trans rfl; have hcz36_7 : w35.cell? ⟨gb399, 7, none⟩ = some (.slice none 0 0) := (blk_cell BK399.out 7).trans rfl; have hfz36_0 := blk_frozen BK399.out 0; have hfz36_1 := blk_frozen BK399.out 1; have hfz36_2 := blk_frozen BK399.out 2; have hfz36_3 := blk_frozen BK399.out 3; have hfz36_4 := blk_frozen BK399.out 4; have hfz36_5 := blk_frozen BK399.out 5; have hfz36_6 := blk_frozen BK399.out 6; have hfz36_7 := blk_frozen BK399.out 7) | (go_at_call 13; (refine (expr_Put.calls kj5 1 (⟨#[]⟩ : ByteArray) 0 0 (⟨#[]⟩ : ByteArray) x0_5 a1 _ _ ([] : List (S26)) t404 _ ?side1 ?side2 ?side3 A30.out).mono ?_); (case side1 => exact Kd.C_nil _ _); (case side2 => exact Nat.le_refl _); (case side3 => exact Glob.below HG.out (by repeat (first | (with_reducible first | exact HB.out | apply below_alloc | apply pw_below_drewN | apply below_drew1 | refine below_set ?_ GE399.out | refine below_set ?_ GE400.out) | exact HB.out))); clear A30; rintro e w37 ⟨rfl, hb⟩; have n0_ := Aside0.mk (blk_below (g := gb399) (o := .cells #[.int .i64 1, .string (⟨#[]⟩ : ByteArray), .int .i64 0, .int .i64 0, .string (⟨#[]⟩ : ByteArray), .string x0_5, .string a1, .slice none 0 0] 26 (0, 0)) (by (with_reducible repeat (first | refine blk_drewN ?_ _ | refine blk_drew ?_ | refine blk_alloc ?_ _)); exact BK399.out) hb); have n1_ := Aside0.mk (blk_below (g := gb400) (o := .cells #[.int .i64 2, .string (⟨#[]⟩ : ByteArray), .int .i64 0, .int .i64 0, .string (⟨#[]⟩ : ByteArray), .string x0_5, .string (⟨#[]⟩ : ByteArray), .slice none 0 0] 26 (0, 0)) (by (with_reducible repeat (first | refine blk_drewN ?_ _ | refine blk_drew ?_ | refine blk_alloc ?_ _)); exact BK400.out) hb); have n2_ := Aside0.mk (below_step (by repeat (first | (with_reducible first | exact HB.out | apply below_alloc | apply pw_below_drewN | apply below_drew1 | refine below_set ?_ GE399.out | refine below_set ?_ GE400.out) | exact HB.out)) hb); clear BK399; clear BK400; clear HB; have BK399 := n0_; have BK400 := n1_; have HB := n2_; clear n0_ n1_ n2_; (try clear hb); (try clear hb2); (try clear hk); (try clear hi)))
                      go_meet
                      case rel => exact ⟨_, ((t404.toList != ((x0_5 ++ (⟨#[46]⟩ : ByteArray)) ++ a1).toList)), (by first | rfl | (simp; done) | (simp [*]; done)), H', ⟨by have := HJ5.out; first | omega | exact Nat.le_refl _⟩, ⟨by (with_reducible repeat (first | refine blk_drewN ?_ _ | refine blk_drew ?_ | refine blk_alloc ?_ _)); exact BK399.out⟩, ⟨by (with_reducible repeat (first | refine blk_drewN ?_ _ | refine blk_drew ?_ | refine blk_alloc ?_ _)); exact BK400.out⟩, ⟨by repeat (first | (with_reducible first | exact HB.out | apply below_alloc | apply pw_below_drewN | apply below_drew1 | refine below_set ?_ GE399.out | refine below_set ?_ GE400.out) | exact HB.out)⟩⟩
                    · rw [if_neg c32] at H
                      exact absurd H (by simp)
                  · rw [if_neg c31] at H
                    exact absurd H (by simp)
                · replace c29 := Bool.eq_false_iff.mpr c29
                  subst c29
                  have H1 : (marshallinglaw07_ExprNames.j1 kj5 x0_5 true true false false 1 (⟨#[]⟩ : ByteArray) 0 0 (⟨#[]⟩ : ByteArray) x0_5 a1) = some r := by rw [if_neg (show ¬ (false = true) by decide)] at H; exact H
                  clear H
                  have H := H1
                  clear H1
                  have H' := Aside0.mk H
                  clear H
                  have hnb38 := NB400_399.out
                  have hnc38 := NB399_400.out
                  have hcz39_0 : w24.cell? ⟨gb400, 0, none⟩ = some (.int .i64 2) := (blk_cell BK400.out 0).trans rfl
                  have hcz39_1 : w24.cell? ⟨gb400, 1, none⟩ = some (.string (⟨#[]⟩ : ByteArray)) := (blk_cell BK400.out 1).trans rfl
                  have hcz39_2 : w24.cell? ⟨gb400, 2, none⟩ = some (.int .i64 0) := (blk_cell BK400.out 2).trans rfl
                  have hcz39_3 : w24.cell? ⟨gb400, 3, none⟩ = some (.int .i64 0) := (blk_cell BK400.out 3).trans rfl
                  have hcz39_4 : w24.cell? ⟨gb400, 4, none⟩ = some (.string (⟨#[]⟩ : ByteArray)) := (blk_cell BK400.out 4).trans rfl
                  have hcz39_5 : w24.cell? ⟨gb400, 5, none⟩ = some (.string x0_5) := (blk_cell BK400.out 5).trans rfl
                  have hcz39_6 : w24.cell? ⟨gb400, 6, none⟩ = some (.string (⟨#[]⟩ : ByteArray)) := (blk_cell BK400.out 6).trans rfl
                  have hcz39_7 : w24.cell? ⟨gb400, 7, none⟩ = some (.slice none 0 0) := (blk_cell BK400.out 7).trans rfl
                  have hfz39_0 := blk_frozen BK400.out 0
                  have hfz39_1 := blk_frozen BK400.out 1
                  have hfz39_2 := blk_frozen BK400.out 2
                  have hfz39_3 := blk_frozen BK400.out 3
                  have hfz39_4 := blk_frozen BK400.out 4
                  have hfz39_5 := blk_frozen BK400.out 5
                  have hfz39_6 := blk_frozen BK400.out 6
                  have hfz39_7 := blk_frozen BK400.out 7
                  go_wp2_with (first | (go_at_call 13; (refine (expr_Put.calls kj5 2 (⟨#[]⟩ : ByteArray) 0 0 (⟨#[]⟩ : ByteArray) x0_5 (⟨#[]⟩ : ByteArray) _ _ ([] : List (S26)) t403 _ ?side1 ?side2 ?side3 A26.out).mono ?_); (case side1 => exact Kd.C_nil _ _); (case side2 => exact Nat.le_refl _); (case side3 => exact Glob.below HG.out (by repeat (first | (with_reducible first | exact HB.out | apply below_alloc | apply pw_below_drewN | apply below_drew1 | refine below_set ?_ GE399.out | refine below_set ?_ GE400.out) | exact HB.out))); clear A26; rintro e w40 ⟨rfl, hb⟩; have n0_ := Aside0.mk (blk_below (g := gb399) (o := .cells #[.int .i64 1, .string (⟨#[]⟩ : ByteArray), .int .i64 0, .int .i64 0, .string (⟨#[]⟩ : ByteArray), .string x0_5, .string a1, .slice none 0 0] 26 (0, 0)) (by (with_reducible repeat (first | refine blk_drewN ?_ _ | refine blk_drew ?_ | refine blk_alloc ?_ _)); exact BK399.out) hb); have n1_ := Aside0.mk (blk_below (g := gb400) (o := .cells #[.int .i64 2, .string (⟨#[]⟩ : ByteArray), .int .i64 0, .int .i64 0, .string (⟨#[]⟩ : ByteArray), .string x0_5, .string (⟨#[]⟩ : ByteArray), .slice none 0 0] 26 (0, 0)) (by (with_reducible repeat (first | refine blk_drewN ?_ _ | refine blk_drew ?_ | refine blk_alloc ?_ _)); exact BK400.out) hb); have n2_ := Aside0.mk (below_step (by repeat (first | (with_reducible first | exact HB.out | apply below_alloc | apply pw_below_drewN | apply below_drew1 | refine below_set ?_ GE399.out | refine below_set ?_ GE400.out) | exact HB.out)) hb); clear BK399; clear BK400; clear HB; have BK399 := n0_; have BK400 := n1_; have HB := n2_; clear n0_ n1_ n2_; (try clear hb); (try clear hb2); (try clear hk); (try clear hi)))
                  go_meet
                  case rel => exact ⟨_, (false), (by first | rfl | (simp; done) | (simp [*]; done)), H', ⟨by have := HJ5.out; first | omega | exact Nat.le_refl _⟩, ⟨by (with_reducible repeat (first | refine blk_drewN ?_ _ | refine blk_drew ?_ | refine blk_alloc ?_ _)); exact BK399.out⟩, ⟨by (with_reducible repeat (first | refine blk_drewN ?_ _ | refine blk_drew ?_ | refine blk_alloc ?_ _)); exact BK400.out⟩, ⟨by repeat (first | (with_reducible first | exact HB.out | apply below_alloc | apply pw_below_drewN | apply below_drew1 | refine below_set ?_ GE399.out | refine below_set ?_ GE400.out) | exact HB.out)⟩⟩
              · rw [if_neg c28] at H
                have c28b0 : (t403.toList == ((⟨#[35]⟩ : ByteArray) ++ x0_5).toList) = false := beq_eq_false_iff_ne.mpr c28
                have c28b1 : (t403.toList != ((⟨#[35]⟩ : ByteArray) ++ x0_5).toList) = true := bne_iff_ne.mpr c28
                (first | rw [c28b0] | (simp only [i64_w, i32_w]; rw [c28b0]) | skip)
                have H' := Aside0.mk H
                clear H
                have hnb41 := NB400_399.out
                have hnc41 := NB399_400.out
                have hcz42_0 : w24.cell? ⟨gb400, 0, none⟩ = some (.int .i64 2) := (blk_cell BK400.out 0).trans rfl
                have hcz42_1 : w24.cell? ⟨gb400, 1, none⟩ = some (.string (⟨#[]⟩ : ByteArray)) := (blk_cell BK400.out 1).trans rfl
                have hcz42_2 : w24.cell? ⟨gb400, 2, none⟩ = some (.int .i64 0) := (blk_cell BK400.out 2).trans rfl
                have hcz42_3 : w24.cell? ⟨gb400, 3, none⟩ = some (.int .i64 0) := (blk_cell BK400.out 3).trans rfl
                have hcz42_4 : w24.cell? ⟨gb400, 4, none⟩ = some (.string (⟨#[]⟩ : ByteArray)) := (blk_cell BK400.out 4).trans rfl
                have hcz42_5 : w24.cell? ⟨gb400, 5, none⟩ = some (.string x0_5) := (blk_cell BK400.out 5).trans rfl
                have hcz42_6 : w24.cell? ⟨gb400, 6, none⟩ = some (.string (⟨#[]⟩ : ByteArray)) := (blk_cell BK400.out 6).trans rfl
                have hcz42_7 : w24.cell? ⟨gb400, 7, none⟩ = some (.slice none 0 0) := (blk_cell BK400.out 7).trans rfl
                have hfz42_0 := blk_frozen BK400.out 0
                have hfz42_1 := blk_frozen BK400.out 1
                have hfz42_2 := blk_frozen BK400.out 2
                have hfz42_3 := blk_frozen BK400.out 3
                have hfz42_4 := blk_frozen BK400.out 4
                have hfz42_5 := blk_frozen BK400.out 5
                have hfz42_6 := blk_frozen BK400.out 6
                have hfz42_7 := blk_frozen BK400.out 7
                go_wp2_with (first | (go_at_call 13; (refine (expr_Put.calls kj5 2 (⟨#[]⟩ : ByteArray) 0 0 (⟨#[]⟩ : ByteArray) x0_5 (⟨#[]⟩ : ByteArray) _ _ ([] : List (S26)) t403 _ ?side1 ?side2 ?side3 A26.out).mono ?_); (case side1 => exact Kd.C_nil _ _); (case side2 => exact Nat.le_refl _); (case side3 => exact Glob.below HG.out (by repeat (first | (with_reducible first | exact HB.out | apply below_alloc | apply pw_below_drewN | apply below_drew1 | refine below_set ?_ GE399.out | refine below_set ?_ GE400.out) | exact HB.out))); clear A26; rintro e w43 ⟨rfl, hb⟩; have n0_ := Aside0.mk (blk_below (g := gb399) (o := .cells #[.int .i64 1, .string (⟨#[]⟩ : ByteArray), .int .i64 0, .int .i64 0, .string (⟨#[]⟩ : ByteArray), .string x0_5, .string a1, .slice none 0 0] 26 (0, 0)) (by (with_reducible repeat (first | refine blk_drewN ?_ _ | refine blk_drew ?_ | refine blk_alloc ?_ _)); exact BK399.out) hb); have n1_ := Aside0.mk (blk_below (g := gb400) (o := .cells #[.int .i64 2, .string (⟨#[]⟩ : ByteArray), .int .i64 0, .int .i64 0, .string (⟨#[]⟩ : ByteArray), .string x0_5, .string (⟨#[]⟩ : ByteArray), .slice none 0 0] 26 (0, 0)) (by (with_reducible repeat (first | refine blk_drewN ?_ _ | refine blk_drew ?_ | refine blk_alloc ?_ _)); exact BK400.out) hb); have n2_ := Aside0.mk (below_step (by repeat (first | (with_reducible first | exact HB.out | apply below_alloc | apply pw_below_drewN | apply below_drew1 | refine below_set ?_ GE399.out | refine below_set ?_ GE400.out) | exact HB.out)) hb); clear BK399; clear BK400; clear HB; have BK399 := n0_; have BK400 := n1_; have HB := n2_; clear n0_ n1_ n2_; (try clear hb); (try clear hb2); (try clear hk); (try clear hi)))
                go_meet
                case rel => exact ⟨_, (true), (by first | rfl | (simp; done) | (simp [*]; done)), H', ⟨by have := HJ5.out; first | omega | exact Nat.le_refl _⟩, ⟨by (with_reducible repeat (first | refine blk_drewN ?_ _ | refine blk_drew ?_ | refine blk_alloc ?_ _)); exact BK399.out⟩, ⟨by (with_reducible repeat (first | refine blk_drewN ?_ _ | refine blk_drew ?_ | refine blk_alloc ?_ _)); exact BK400.out⟩, ⟨by repeat (first | (with_reducible first | exact HB.out | apply below_alloc | apply pw_below_drewN | apply below_drew1 | refine below_set ?_ GE399.out | refine below_set ?_ GE400.out) | exact HB.out)⟩⟩
            · rw [if_neg c27] at H
              exact absurd H (by simp)
          · replace c25 := Bool.eq_false_iff.mpr c25
            subst c25
            have H1 : (marshallinglaw07_ExprNames.j1 kj5 x0_5 true false t402 false 1 (⟨#[]⟩ : ByteArray) 0 0 (⟨#[]⟩ : ByteArray) x0_5 a1) = some r := by rw [if_neg (show ¬ (false = true) by decide)] at H; exact H
            clear H
            have H := H1
            clear H1
            have H' := Aside0.mk H
            clear H
            go_wp2
            go_meet
            case rel => exact ⟨_, (false), (by first | rfl | (simp; done) | (simp [*]; done)), H', ⟨by have := HJ5.out; first | omega | exact Nat.le_refl _⟩, ⟨by (with_reducible repeat (first | refine blk_drewN ?_ _ | refine blk_drew ?_ | refine blk_alloc ?_ _)); exact BK399.out⟩, ⟨by (with_reducible repeat (first | refine blk_drewN ?_ _ | refine blk_drew ?_ | refine blk_alloc ?_ _)); exact BK400.out⟩, ⟨by repeat (first | (with_reducible first | exact HB.out | apply below_alloc | apply pw_below_drewN | apply below_drew1 | refine below_set ?_ GE399.out | refine below_set ?_ GE400.out) | exact HB.out)⟩⟩
        case rest =>
          clear HC17
          try clear c1
          try clear c2
          try clear p2
          try clear c3
          try clear p3
          try clear q3
          try clear hx3
          try clear c4
          try clear c5
          try clear c8
          try clear c8b0
          try clear c8b1
          try clear c9
          try clear c10
          try clear c10b0
          try clear c11
          try clear c11b0
          try clear c12
          try clear c21
          try clear c25
          try clear c27
          try clear c27b0
          try clear c27b1
          try clear c27b2
          try clear c28
          try clear c28b0
          try clear c28b1
          try clear c29
          try clear c31
          try clear c31b0
          try clear c31b1
          try clear c31b2
          try clear c32
          try clear c32b0
          try clear c32b1
          try clear c32b2
          try clear c33
          try clear c38
          try clear p39
          try clear q39
          try clear hx39
          try clear c41
          try clear hcz19_0
          try clear hcz19_1
          try clear hcz19_2
          try clear hcz19_3
          try clear hcz19_4
          try clear hcz19_5
          try clear hcz19_6
          try clear hcz19_7
          try clear hcz22_0
          try clear hcz22_1
          try clear hcz22_2
          try clear hcz22_3
          try clear hcz22_4
          try clear hcz22_5
          try clear hcz22_6
          try clear hcz22_7
          try clear hcz34_0
          try clear hcz34_1
          try clear hcz34_2
          try clear hcz34_3
          try clear hcz34_4
          try clear hcz34_5
          try clear hcz34_6
          try clear hcz34_7
          try clear hcz36_0
          try clear hcz36_1
          try clear hcz36_2
          try clear hcz36_3
          try clear hcz36_4
          try clear hcz36_5
          try clear hcz36_6
          try clear hcz36_7
          try clear hcz39_0
          try clear hcz39_1
          try clear hcz39_2
          try clear hcz39_3
          try clear hcz39_4
          try clear hcz39_5
          try clear hcz39_6
          try clear hcz39_7
          try clear hcz42_0
          try clear hcz42_1
          try clear hcz42_2
          try clear hcz42_3
          try clear hcz42_4
          try clear hcz42_5
          try clear hcz42_6
          try clear hcz42_7
          try clear hfz19_0
          try clear hfz19_1
          try clear hfz19_2
          try clear hfz19_3
          try clear hfz19_4
          try clear hfz19_5
          try clear hfz19_6
          try clear hfz19_7
          try clear hfz22_0
          try clear hfz22_1
          try clear hfz22_2
          try clear hfz22_3
          try clear hfz22_4
          try clear hfz22_5
          try clear hfz22_6
          try clear hfz22_7
          try clear hfz34_0
          try clear hfz34_1
          try clear hfz34_2
          try clear hfz34_3
          try clear hfz34_4
          try clear hfz34_5
          try clear hfz34_6
          try clear hfz34_7
          try clear hfz36_0
          try clear hfz36_1
          try clear hfz36_2
          try clear hfz36_3
          try clear hfz36_4
          try clear hfz36_5
          try clear hfz36_6
          try clear hfz36_7
          try clear hfz39_0
          try clear hfz39_1
          try clear hfz39_2
          try clear hfz39_3
          try clear hfz39_4
          try clear hfz39_5
          try clear hfz39_6
          try clear hfz39_7
          try clear hfz42_0
          try clear hfz42_1
          try clear hfz42_2
          try clear hfz42_3
          try clear hfz42_4
          try clear hfz42_5
          try clear hfz42_6
          try clear hfz42_7
          try clear hx398_0
          try clear p2
          try clear p3
          try clear p398
          try clear q3
          try clear q398
          obtain ⟨kq, x57_16, rfl, HA, HJ16, BK399, BK400, HB⟩ := hcut
          cases kq with
          | zero => exact absurd HA.out (by simp [marshallinglaw07_ExprNames.j1])
          | succ kj16 =>
            have H := HA.out
            clear HA
            simp only [marshallinglaw07_ExprNames.j1] at H
            by_cases c44 : x57_16 = true
            · subst c44
              have H1 : (none) = some r := by rw [if_pos rfl] at H; exact H
              clear H
              have H := H1
              clear H1
              exact absurd H (by simp)
            · replace c44 := Bool.eq_false_iff.mpr c44
              subst c44
              have H1 : ((expr_Vars.f kj16 1 (⟨#[]⟩ : ByteArray) 0 0 (⟨#[]⟩ : ByteArray) x0_5 a1 ([] : List (S26))).bind fun t405 => (if true = true then ((expr_Right.f kj16 1 (⟨#[]⟩ : ByteArray) 0 0 (⟨#[]⟩ : ByteArray) x0_5 a1 ([] : List (S26))).bind fun t408 => (if t401 = true then (if (t408 == t402) = true then ((expr_Right.f kj16 2 (⟨#[]⟩ : ByteArray) 0 0 (⟨#[]⟩ : ByteArray) (⟨#[57]⟩ : ByteArray) (⟨#[]⟩ : ByteArray) ([] : List (S26))).bind fun t409 => (if t409 = true then (none) else (if (t405.length : Int) = 1 then (if 0 < (t405.length : Int) then (some ((rdOf ByteArray.empty t405 0).toList == x0_5.toList)) else (none)) else (none)))) else (none)) else (if (t408 == false) = true then ((expr_Right.f kj16 2 (⟨#[]⟩ : ByteArray) 0 0 (⟨#[]⟩ : ByteArray) (⟨#[57]⟩ : ByteArray) (⟨#[]⟩ : ByteArray) ([] : List (S26))).bind fun t411 => (if t411 = true then (none) else (if (t405.length : Int) = 1 then (if 0 < (t405.length : Int) then (some ((rdOf ByteArray.empty t405 0).toList == x0_5.toList)) else (none)) else (none)))) else (none)))) else (none))) = some r := by rw [if_neg (show ¬ (false = true) by decide)] at H; exact H
              clear H
              have H := H1
              clear H1
              replace H := Option.bind_eq_some_iff.mp H
              obtain ⟨t405, A450, H⟩ := H
              replace H : (if true = true then ((expr_Right.f kj16 1 (⟨#[]⟩ : ByteArray) 0 0 (⟨#[]⟩ : ByteArray) x0_5 a1 ([] : List (S26))).bind fun t408 => (if t401 = true then (if (t408 == t402) = true then ((expr_Right.f kj16 2 (⟨#[]⟩ : ByteArray) 0 0 (⟨#[]⟩ : ByteArray) (⟨#[57]⟩ : ByteArray) (⟨#[]⟩ : ByteArray) ([] : List (S26))).bind fun t409 => (if t409 = true then (none) else (if (t405.length : Int) = 1 then (if 0 < (t405.length : Int) then (some ((rdOf ByteArray.empty t405 0).toList == x0_5.toList)) else (none)) else (none)))) else (none)) else (if (t408 == false) = true then ((expr_Right.f kj16 2 (⟨#[]⟩ : ByteArray) 0 0 (⟨#[]⟩ : ByteArray) (⟨#[57]⟩ : ByteArray) (⟨#[]⟩ : ByteArray) ([] : List (S26))).bind fun t411 => (if t411 = true then (none) else (if (t405.length : Int) = 1 then (if 0 < (t405.length : Int) then (some ((rdOf ByteArray.empty t405 0).toList == x0_5.toList)) else (none)) else (none)))) else (none)))) else (none)) = some r := H
              have A45 := Aside0.mk A450
              clear A450
              have H1 : ((expr_Right.f kj16 1 (⟨#[]⟩ : ByteArray) 0 0 (⟨#[]⟩ : ByteArray) x0_5 a1 ([] : List (S26))).bind fun t408 => (if t401 = true then (if (t408 == t402) = true then ((expr_Right.f kj16 2 (⟨#[]⟩ : ByteArray) 0 0 (⟨#[]⟩ : ByteArray) (⟨#[57]⟩ : ByteArray) (⟨#[]⟩ : ByteArray) ([] : List (S26))).bind fun t409 => (if t409 = true then (none) else (if (t405.length : Int) = 1 then (if 0 < (t405.length : Int) then (some ((rdOf ByteArray.empty t405 0).toList == x0_5.toList)) else (none)) else (none)))) else (none)) else (if (t408 == false) = true then ((expr_Right.f kj16 2 (⟨#[]⟩ : ByteArray) 0 0 (⟨#[]⟩ : ByteArray) (⟨#[57]⟩ : ByteArray) (⟨#[]⟩ : ByteArray) ([] : List (S26))).bind fun t411 => (if t411 = true then (none) else (if (t405.length : Int) = 1 then (if 0 < (t405.length : Int) then (some ((rdOf ByteArray.empty t405 0).toList == x0_5.toList)) else (none)) else (none)))) else (none)))) = some r := by first | (rw [if_pos rfl] at H; exact H) | (rw [if_pos trivial] at H; exact H) | exact H | simpa using H
              clear H
              have H := H1
              clear H1
              replace H := Option.bind_eq_some_iff.mp H
              obtain ⟨t408, A460, H⟩ := H
              replace H : (if t401 = true then (if (t408 == t402) = true then ((expr_Right.f kj16 2 (⟨#[]⟩ : ByteArray) 0 0 (⟨#[]⟩ : ByteArray) (⟨#[57]⟩ : ByteArray) (⟨#[]⟩ : ByteArray) ([] : List (S26))).bind fun t409 => (if t409 = true then (none) else (if (t405.length : Int) = 1 then (if 0 < (t405.length : Int) then (some ((rdOf ByteArray.empty t405 0).toList == x0_5.toList)) else (none)) else (none)))) else (none)) else (if (t408 == false) = true then ((expr_Right.f kj16 2 (⟨#[]⟩ : ByteArray) 0 0 (⟨#[]⟩ : ByteArray) (⟨#[57]⟩ : ByteArray) (⟨#[]⟩ : ByteArray) ([] : List (S26))).bind fun t411 => (if t411 = true then (none) else (if (t405.length : Int) = 1 then (if 0 < (t405.length : Int) then (some ((rdOf ByteArray.empty t405 0).toList == x0_5.toList)) else (none)) else (none)))) else (none))) = some r := H
              have A46 := Aside0.mk A460
              clear A460
              by_cases c47 : t401 = true
              · subst c47
                have H1 : (if (t408 == t402) = true then ((expr_Right.f kj16 2 (⟨#[]⟩ : ByteArray) 0 0 (⟨#[]⟩ : ByteArray) (⟨#[57]⟩ : ByteArray) (⟨#[]⟩ : ByteArray) ([] : List (S26))).bind fun t409 => (if t409 = true then (none) else (if (t405.length : Int) = 1 then (if 0 < (t405.length : Int) then (some ((rdOf ByteArray.empty t405 0).toList == x0_5.toList)) else (none)) else (none)))) else (none)) = some r := by rw [if_pos rfl] at H; exact H
                clear H
                have H := H1
                clear H1
                by_cases c48 : (t408 == t402) = true
                · rw [if_pos c48] at H
                  have c48b0 : (t408 == t402) = true := c48
                  (try (have c48b1 : decide (t408 = t402) = true := by simpa using c48))
                  (try (have c48b2 : (t408 == t402) = true := by simpa using c48))
                  clear c48
                  replace H := Option.bind_eq_some_iff.mp H
                  obtain ⟨t409, A490, H⟩ := H
                  replace H : (if t409 = true then (none) else (if (t405.length : Int) = 1 then (if 0 < (t405.length : Int) then (some ((rdOf ByteArray.empty t405 0).toList == x0_5.toList)) else (none)) else (none))) = some r := H
                  have A49 := Aside0.mk A490
                  clear A490
                  by_cases c50 : t409 = true
                  · subst c50
                    have H1 : (none) = some r := by rw [if_pos rfl] at H; exact H
                    clear H
                    have H := H1
                    clear H1
                    exact absurd H (by simp)
                  · replace c50 := Bool.eq_false_iff.mpr c50
                    subst c50
                    have H1 : (if (t405.length : Int) = 1 then (if 0 < (t405.length : Int) then (some ((rdOf ByteArray.empty t405 0).toList == x0_5.toList)) else (none)) else (none)) = some r := by rw [if_neg (show ¬ (false = true) by decide)] at H; exact H
                    clear H
                    have H := H1
                    clear H1
                    by_cases c51 : (t405.length : Int) = 1
                    · rw [if_pos c51] at H
                      have c51b0 : ((t405.length : Int) == 1) = true := beq_iff_eq.mpr c51
                      have c51b1 : ((t405.length : Int) != 1) = false := bne_eq_false_iff_eq.mpr c51
                      clear c51
                      by_cases c52 : 0 < (t405.length : Int)
                      · rw [if_pos c52] at H
                        have c52b0 : decide (0 < (t405.length : Int)) = true := decide_eq_true c52
                        have c52b1 : decide (0 < t405.length) = true := decide_eq_true (by omega)
                        clear c52
                        obtain rfl := Option.some.inj H
                        have hnb53 := NB399_400.out
                        have hnc53 := NB400_399.out
                        have hcz54_0 : wc.cell? ⟨gb399, 0, none⟩ = some (.int .i64 1) := (blk_cell BK399.out 0).trans rfl
                        have hcz54_1 : wc.cell? ⟨gb399, 1, none⟩ = some (.string (⟨#[]⟩ : ByteArray)) := (blk_cell BK399.out 1).trans rfl
                        have hcz54_2 : wc.cell? ⟨gb399, 2, none⟩ = some (.int .i64 0) := (blk_cell BK399.out 2).trans rfl
                        have hcz54_3 : wc.cell? ⟨gb399, 3, none⟩ = some (.int .i64 0) := (blk_cell BK399.out 3).trans rfl
                        have hcz54_4 : wc.cell? ⟨gb399, 4, none⟩ = some (.string (⟨#[]⟩ : ByteArray)) := (blk_cell BK399.out 4).trans rfl
                        have hcz54_5 : wc.cell? ⟨gb399, 5, none⟩ = some (.string x0_5) := (blk_cell BK399.out 5).trans rfl
                        have hcz54_6 : wc.cell? ⟨gb399, 6, none⟩ = some (.string a1) := (blk_cell BK399.out 6).trans rfl
                        have hcz54_7 : wc.cell? ⟨gb399, 7, none⟩ = some (.slice none 0 0) := (blk_cell BK399.out 7).trans rfl
                        have hfz54_0 := blk_frozen BK399.out 0
                        have hfz54_1 := blk_frozen BK399.out 1
                        have hfz54_2 := blk_frozen BK399.out 2
                        have hfz54_3 := blk_frozen BK399.out 3
                        have hfz54_4 := blk_frozen BK399.out 4
                        have hfz54_5 := blk_frozen BK399.out 5
                        have hfz54_6 := blk_frozen BK399.out 6
                        have hfz54_7 := blk_frozen BK399.out 7
                        go_wp2_with (first | ((with_reducible refine gate_callee (f := 15) rfl ?_); refine goesL_ (some 59) rfl rfl Tryd.func15 (by kernel_rfl) rfl #[.agg #[.int .i64 1, .string (⟨#[]⟩ : ByteArray), .int .i64 0, .int .i64 0, .string (⟨#[]⟩ : ByteArray), .string x0_5, .string a1, .slice none 0 0]] rfl (by (try simp only [List.map_toArray, List.map_cons, List.map_nil]); first | done | rfl | (simp only [List.length_drop, List.length_take]; rfl)) ?_; (refine (expr_Vars.calls kj16 1 (⟨#[]⟩ : ByteArray) 0 0 (⟨#[]⟩ : ByteArray) x0_5 a1 _ _ ([] : List (S26)) t405 _ ?side1 ?side2 A45.out).mono ?_); (case side1 => exact Kd.C_nil _ _); (case side2 => exact Nat.le_refl _); clear A45; rintro e w55 ⟨v406, rfl, ho0, hb⟩; refine ⟨_, rfl, ?_⟩; have n0_ := Aside0.mk (Kd.R_lower ho0 (below_size (by repeat (first | (with_reducible first | exact HB.out | apply below_alloc | apply pw_below_drewN | apply below_drew1 | refine below_set ?_ GE399.out | refine below_set ?_ GE400.out) | exact HB.out)))); have n1_ := Aside0.mk (blk_below (g := gb399) (o := .cells #[.int .i64 1, .string (⟨#[]⟩ : ByteArray), .int .i64 0, .int .i64 0, .string (⟨#[]⟩ : ByteArray), .string x0_5, .string a1, .slice none 0 0] 26 (0, 0)) (by (with_reducible repeat (first | refine blk_drewN ?_ _ | refine blk_drew ?_ | refine blk_alloc ?_ _)); exact BK399.out) hb); have n2_ := Aside0.mk (blk_below (g := gb400) (o := .cells #[.int .i64 2, .string (⟨#[]⟩ : ByteArray), .int .i64 0, .int .i64 0, .string (⟨#[]⟩ : ByteArray), .string x0_5, .string (⟨#[]⟩ : ByteArray), .slice none 0 0] 26 (0, 0)) (by (with_reducible repeat (first | refine blk_drewN ?_ _ | refine blk_drew ?_ | refine blk_alloc ?_ _)); exact BK400.out) hb); have n3_ := Aside0.mk (below_step (by repeat (first | (with_reducible first | exact HB.out | apply below_alloc | apply pw_below_drewN | apply below_drew1 | refine below_set ?_ GE399.out | refine below_set ?_ GE400.out) | exact HB.out)) hb); clear BK399; clear BK400; clear HB; have HO407 := n0_; have BK399 := n1_; have BK400 := n2_; have HB := n3_; clear n0_ n1_ n2_ n3_; (try clear hb); (try clear hb2); (try clear hk); (try clear hi); (try clear ho0); have hcz56_0 : w55.cell? ⟨gb399, 0, none⟩ = some (.int .i64 1) := (blk_cell BK399.out 0).trans rfl; have hcz56_1 : w55.cell? ⟨gb399, 1, none⟩ = some (.string (⟨#[]⟩ : ByteArray)) := (blk_cell BK399.out 1).trans rfl; have hcz56_2 : w55.cell? ⟨gb399, 2, none⟩ = some (.int .i64 0) := (blk_cell BK399.out 2).trans rfl; have hcz56_3 : w55.cell? ⟨gb399, 3, none⟩ = some (.int .i64 0) := (blk_cell BK399.out 3).trans rfl; have hcz56_4 : w55.cell? ⟨gb399, 4, none⟩ = some (.string (⟨#[]⟩ : ByteArray)) := (blk_cell BK399.out 4).trans rfl; have hcz56_5 : w55.cell? ⟨gb399, 5, none⟩ = some (.string x0_5) := (blk_cell BK399.out 5).trans rfl; have hcz56_6 : w55.cell? ⟨gb399, 6, none⟩ = some (.string a1) := (blk_cell BK399.out 6).trans rfl; have hcz56_7 : w55.cell? ⟨gb399, 7, none⟩ = some (.slice none 0 0) := (blk_cell BK399.out 7).trans rfl; have hfz56_0 := blk_frozen BK399.out 0; have hfz56_1 := blk_frozen BK399.out 1; have hfz56_2 := blk_frozen BK399.out 2; have hfz56_3 := blk_frozen BK399.out 3; have hfz56_4 := blk_frozen BK399.out 4; have hfz56_5 := blk_frozen BK399.out 5; have hfz56_6 := blk_frozen BK399.out 6; have hfz56_7 := blk_frozen BK399.out 7) | (go_at_call 12; (refine (expr_Right.calls kj16 1 (⟨#[]⟩ : ByteArray) 0 0 (⟨#[]⟩ : ByteArray) x0_5 a1 _ _ ([] : List (S26)) t408 _ ?side1 ?side2 ?side3 A46.out).mono ?_); (case side1 => exact Kd.C_nil _ _); (case side2 => exact Nat.le_refl _); (case side3 => exact Glob.below HG.out (by repeat (first | (with_reducible first | exact HB.out | apply below_alloc | apply pw_below_drewN | apply below_drew1 | refine below_set ?_ GE399.out | refine below_set ?_ GE400.out) | exact HB.out))); clear A46; rintro e w57 ⟨rfl, hb⟩; have n0_ := Aside0.mk (Kd.R_below (by (with_reducible repeat (first | apply Kd.R_alloc | apply Kd.R_drewN | apply Kd.R_drew)); exact HO407.out) hb); have n1_ := Aside0.mk (blk_below (g := gb399) (o := .cells #[.int .i64 1, .string (⟨#[]⟩ : ByteArray), .int .i64 0, .int .i64 0, .string (⟨#[]⟩ : ByteArray), .string x0_5, .string a1, .slice none 0 0] 26 (0, 0)) (by (with_reducible repeat (first | refine blk_drewN ?_ _ | refine blk_drew ?_ | refine blk_alloc ?_ _)); exact BK399.out) hb); have n2_ := Aside0.mk (blk_below (g := gb400) (o := .cells #[.int .i64 2, .string (⟨#[]⟩ : ByteArray), .int .i64 0, .int .i64 0, .string (⟨#[]⟩ : ByteArray), .string x0_5, .string (⟨#[]⟩ : ByteArray), .slice none 0 0] 26 (0, 0)) (by (with_reducible repeat (first | refine blk_drewN ?_ _ | refine blk_drew ?_ | refine blk_alloc ?_ _)); exact BK400.out) hb); have n3_ := Aside0.mk (below_step (by repeat (first | (with_reducible first | exact HB.out | apply below_alloc | apply pw_below_drewN | apply below_drew1 | refine below_set ?_ GE399.out | refine below_set ?_ GE400.out) | exact HB.out)) hb); clear HO407; clear BK399; clear BK400; clear HB; have HO407 := n0_; have BK399 := n1_; have BK400 := n2_; have HB := n3_; clear n0_ n1_ n2_ n3_; (try clear hb); (try clear hb2); (try clear hk); (try clear hi)) | (go_at_call 12; (refine (expr_Right.calls kj16 2 (⟨#[]⟩ : ByteArray) 0 0 (⟨#[]⟩ : ByteArray) (⟨#[57]⟩ : ByteArray) (⟨#[]⟩ : ByteArray) _ _ ([] : List (S26)) false _ ?side1 ?side2 ?side3 A49.out).mono ?_); (case side1 => exact Kd.C_nil _ _); (case side2 => exact Nat.le_refl _); (case side3 => exact Glob.below HG.out (by repeat (first | (with_reducible first | exact HB.out | apply below_alloc | apply pw_below_drewN | apply below_drew1 | refine below_set ?_ GE399.out | refine below_set ?_ GE400.out) | exact HB.out))); clear A49; rintro e w58 ⟨rfl, hb⟩; have n0_ := Aside0.mk (Kd.R_below (by (with_reducible repeat (first | apply Kd.R_alloc | apply Kd.R_drewN | apply Kd.R_drew)); exact HO407.out) hb); have n1_ := Aside0.mk (blk_below (g := gb399) (o := .cells #[.int .i64 1, .string (⟨#[]⟩ : ByteArray), .int .i64 0, .int .i64 0, .string (⟨#[]⟩ : ByteArray), .string x0_5, .string a1, .slice none 0 0] 26 (0, 0)) (by (with_reducible repeat (first | refine blk_drewN ?_ _ | refine blk_drew ?_ | refine blk_alloc ?_ _)); exact BK399.out) hb); have n2_ := Aside0.mk (blk_below (g := gb400) (o := .cells #[.int .i64 2, .string (⟨#[]⟩ : ByteArray), .int .i64 0, .int .i64 0, .string (⟨#[]⟩ : ByteArray), .string x0_5, .string (⟨#[]⟩ : ByteArray), .slice none 0 0] 26 (0, 0)) (by (with_reducible repeat (first | refine blk_drewN ?_ _ | refine blk_drew ?_ | refine blk_alloc ?_ _)); exact BK400.out) hb); have n3_ := Aside0.mk (below_step (by repeat (first | (with_reducible first | exact HB.out | apply below_alloc | apply pw_below_drewN | apply below_drew1 | refine below_set ?_ GE399.out | refine below_set ?_ GE400.out) | exact HB.out)) hb); clear HO407; clear BK399; clear BK400; clear HB; have HO407 := n0_; have BK399 := n1_; have BK400 := n2_; have HB := n3_; clear n0_ n1_ n2_ n3_; (try clear hb); (try clear hb2); (try clear hk); (try clear hi); obtain ⟨Ao59, co59, eo59⟩ := Kd.R_slice HO407.out; subst eo59; have p410 : 0 ≤ (0 : Int) := (by omega); have q410 : 0 < (t405.length : Int) := of_decide_eq_true (by first | (with_reducible assumption) | assumption); obtain ⟨ad410, e410, hx410_0⟩ := Kd.at_string (Kd.R_reads' HO407.out).2.2 0 p410 q410; cases e410; have qi410 : (0 < t405.length) = True := eq_true (by omega); (try rw [show ((0 : Int)).toNat = 0 from rfl] at hx410_0); (try rw [Addr.add_zero'] at hx410_0); replace p410 := eq_true p410; replace q410 := eq_true q410))
                        go_ret
                        exact ⟨by first | rfl | (simp [errW_none, errW_some] <;> rfl) | (simp [*, errW_none, errW_some] <;> rfl), by repeat (first | (with_reducible first | exact HB.out | apply below_alloc | apply pw_below_drewN | apply below_drew1 | refine below_set ?_ GE399.out | refine below_set ?_ GE400.out) | exact HB.out)⟩
                      · rw [if_neg c52] at H
                        exact absurd H (by simp)
                    · rw [if_neg c51] at H
                      exact absurd H (by simp)
                · rw [if_neg c48] at H
                  exact absurd H (by simp)
              · replace c47 := Bool.eq_false_iff.mpr c47
                subst c47
                have H1 : (if (t408 == false) = true then ((expr_Right.f kj16 2 (⟨#[]⟩ : ByteArray) 0 0 (⟨#[]⟩ : ByteArray) (⟨#[57]⟩ : ByteArray) (⟨#[]⟩ : ByteArray) ([] : List (S26))).bind fun t411 => (if t411 = true then (none) else (if (t405.length : Int) = 1 then (if 0 < (t405.length : Int) then (some ((rdOf ByteArray.empty t405 0).toList == x0_5.toList)) else (none)) else (none)))) else (none)) = some r := by rw [if_neg (show ¬ (false = true) by decide)] at H; exact H
                clear H
                have H := H1
                clear H1
                by_cases c60 : (t408 == false) = true
                · rw [if_pos c60] at H
                  have c60b0 : (t408 == false) = true := c60
                  (try (have c60b1 : decide (t408 = false) = true := by simpa using c60))
                  (try (have c60b2 : (t408 == false) = true := by simpa using c60))
                  clear c60
                  replace H := Option.bind_eq_some_iff.mp H
                  obtain ⟨t411, A610, H⟩ := H
                  replace H : (if t411 = true then (none) else (if (t405.length : Int) = 1 then (if 0 < (t405.length : Int) then (some ((rdOf ByteArray.empty t405 0).toList == x0_5.toList)) else (none)) else (none))) = some r := H
                  have A61 := Aside0.mk A610
                  clear A610
                  by_cases c62 : t411 = true
                  · subst c62
                    have H1 : (none) = some r := by rw [if_pos rfl] at H; exact H
                    clear H
                    have H := H1
                    clear H1
                    exact absurd H (by simp)
                  · replace c62 := Bool.eq_false_iff.mpr c62
                    subst c62
                    have H1 : (if (t405.length : Int) = 1 then (if 0 < (t405.length : Int) then (some ((rdOf ByteArray.empty t405 0).toList == x0_5.toList)) else (none)) else (none)) = some r := by rw [if_neg (show ¬ (false = true) by decide)] at H; exact H
                    clear H
                    have H := H1
                    clear H1
                    by_cases c63 : (t405.length : Int) = 1
                    · rw [if_pos c63] at H
                      have c63b0 : ((t405.length : Int) == 1) = true := beq_iff_eq.mpr c63
                      have c63b1 : ((t405.length : Int) != 1) = false := bne_eq_false_iff_eq.mpr c63
                      clear c63
                      by_cases c64 : 0 < (t405.length : Int)
                      · rw [if_pos c64] at H
                        have c64b0 : decide (0 < (t405.length : Int)) = true := decide_eq_true c64
                        have c64b1 : decide (0 < t405.length) = true := decide_eq_true (by omega)
                        clear c64
                        obtain rfl := Option.some.inj H
                        have hnb65 := NB399_400.out
                        have hnc65 := NB400_399.out
                        have hcz66_0 : wc.cell? ⟨gb399, 0, none⟩ = some (.int .i64 1) := (blk_cell BK399.out 0).trans rfl
                        have hcz66_1 : wc.cell? ⟨gb399, 1, none⟩ = some (.string (⟨#[]⟩ : ByteArray)) := (blk_cell BK399.out 1).trans rfl
                        have hcz66_2 : wc.cell? ⟨gb399, 2, none⟩ = some (.int .i64 0) := (blk_cell BK399.out 2).trans rfl
                        have hcz66_3 : wc.cell? ⟨gb399, 3, none⟩ = some (.int .i64 0) := (blk_cell BK399.out 3).trans rfl
                        have hcz66_4 : wc.cell? ⟨gb399, 4, none⟩ = some (.string (⟨#[]⟩ : ByteArray)) := (blk_cell BK399.out 4).trans rfl
                        have hcz66_5 : wc.cell? ⟨gb399, 5, none⟩ = some (.string x0_5) := (blk_cell BK399.out 5).trans rfl
                        have hcz66_6 : wc.cell? ⟨gb399, 6, none⟩ = some (.string a1) := (blk_cell BK399.out 6).trans rfl
                        have hcz66_7 : wc.cell? ⟨gb399, 7, none⟩ = some (.slice none 0 0) := (blk_cell BK399.out 7).trans rfl
                        have hfz66_0 := blk_frozen BK399.out 0
                        have hfz66_1 := blk_frozen BK399.out 1
                        have hfz66_2 := blk_frozen BK399.out 2
                        have hfz66_3 := blk_frozen BK399.out 3
                        have hfz66_4 := blk_frozen BK399.out 4
                        have hfz66_5 := blk_frozen BK399.out 5
                        have hfz66_6 := blk_frozen BK399.out 6
                        have hfz66_7 := blk_frozen BK399.out 7
                        go_wp2_with (first | ((with_reducible refine gate_callee (f := 15) rfl ?_); refine goesL_ (some 59) rfl rfl Tryd.func15 (by kernel_rfl) rfl #[.agg #[.int .i64 1, .string (⟨#[]⟩ : ByteArray), .int .i64 0, .int .i64 0, .string (⟨#[]⟩ : ByteArray), .string x0_5, .string a1, .slice none 0 0]] rfl (by (try simp only [List.map_toArray, List.map_cons, List.map_nil]); first | done | rfl | (simp only [List.length_drop, List.length_take]; rfl)) ?_; (refine (expr_Vars.calls kj16 1 (⟨#[]⟩ : ByteArray) 0 0 (⟨#[]⟩ : ByteArray) x0_5 a1 _ _ ([] : List (S26)) t405 _ ?side1 ?side2 A45.out).mono ?_); (case side1 => exact Kd.C_nil _ _); (case side2 => exact Nat.le_refl _); clear A45; rintro e w67 ⟨v406, rfl, ho0, hb⟩; refine ⟨_, rfl, ?_⟩; have n0_ := Aside0.mk (Kd.R_lower ho0 (below_size (by repeat (first | (with_reducible first | exact HB.out | apply below_alloc | apply pw_below_drewN | apply below_drew1 | refine below_set ?_ GE399.out | refine below_set ?_ GE400.out) | exact HB.out)))); have n1_ := Aside0.mk (blk_below (g := gb399) (o := .cells #[.int .i64 1, .string (⟨#[]⟩ : ByteArray), .int .i64 0, .int .i64 0, .string (⟨#[]⟩ : ByteArray), .string x0_5, .string a1, .slice none 0 0] 26 (0, 0)) (by (with_reducible repeat (first | refine blk_drewN ?_ _ | refine blk_drew ?_ | refine blk_alloc ?_ _)); exact BK399.out) hb); have n2_ := Aside0.mk (blk_below (g := gb400) (o := .cells #[.int .i64 2, .string (⟨#[]⟩ : ByteArray), .int .i64 0, .int .i64 0, .string (⟨#[]⟩ : ByteArray), .string x0_5, .string (⟨#[]⟩ : ByteArray), .slice none 0 0] 26 (0, 0)) (by (with_reducible repeat (first | refine blk_drewN ?_ _ | refine blk_drew ?_ | refine blk_alloc ?_ _)); exact BK400.out) hb); have n3_ := Aside0.mk (below_step (by repeat (first | (with_reducible first | exact HB.out | apply below_alloc | apply pw_below_drewN | apply below_drew1 | refine below_set ?_ GE399.out | refine below_set ?_ GE400.out) | exact HB.out)) hb); clear BK399; clear BK400; clear HB; have HO407 := n0_; have BK399 := n1_; have BK400 := n2_; have HB := n3_; clear n0_ n1_ n2_ n3_; (try clear hb); (try clear hb2); (try clear hk); (try clear hi); (try clear ho0); have hcz68_0 : w67.cell? ⟨gb399, 0, none⟩ = some (.int .i64 1) := (blk_cell BK399.out 0).trans rfl; have hcz68_1 : w67.cell? ⟨gb399, 1, none⟩ = some (.string (⟨#[]⟩ : ByteArray)) := (blk_cell BK399.out 1).trans rfl; have hcz68_2 : w67.cell? ⟨gb399, 2, none⟩ = some (.int .i64 0) := (blk_cell BK399.out 2).trans rfl; have hcz68_3 : w67.cell? ⟨gb399, 3, none⟩ = some (.int .i64 0) := (blk_cell BK399.out 3).trans rfl; have hcz68_4 : w67.cell? ⟨gb399, 4, none⟩ = some (.string (⟨#[]⟩ : ByteArray)) := (blk_cell BK399.out 4).trans rfl; have hcz68_5 : w67.cell? ⟨gb399, 5, none⟩ = some (.string x0_5) := (blk_cell BK399.out 5).trans rfl; have hcz68_6 : w67.cell? ⟨gb399, 6, none⟩ = some (.string a1) := (blk_cell BK399.out 6).trans rfl; have hcz68_7 : w67.cell? ⟨gb399, 7, none⟩ = some (.slice none 0 0) := (blk_cell BK399.out 7).trans rfl; have hfz68_0 := blk_frozen BK399.out 0; have hfz68_1 := blk_frozen BK399.out 1; have hfz68_2 := blk_frozen BK399.out 2; have hfz68_3 := blk_frozen BK399.out 3; have hfz68_4 := blk_frozen BK399.out 4; have hfz68_5 := blk_frozen BK399.out 5; have hfz68_6 := blk_frozen BK399.out 6; have hfz68_7 := blk_frozen BK399.out 7) | (go_at_call 12; (refine (expr_Right.calls kj16 1 (⟨#[]⟩ : ByteArray) 0 0 (⟨#[]⟩ : ByteArray) x0_5 a1 _ _ ([] : List (S26)) t408 _ ?side1 ?side2 ?side3 A46.out).mono ?_); (case side1 => exact Kd.C_nil _ _); (case side2 => exact Nat.le_refl _); (case side3 => exact Glob.below HG.out (by repeat (first | (with_reducible first | exact HB.out | apply below_alloc | apply pw_below_drewN | apply below_drew1 | refine below_set ?_ GE399.out | refine below_set ?_ GE400.out) | exact HB.out))); clear A46; rintro e w69 ⟨rfl, hb⟩; have n0_ := Aside0.mk (Kd.R_below (by (with_reducible repeat (first | apply Kd.R_alloc | apply Kd.R_drewN | apply Kd.R_drew)); exact HO407.out) hb); have n1_ := Aside0.mk (blk_below (g := gb399) (o := .cells #[.int .i64 1, .string (⟨#[]⟩ : ByteArray), .int .i64 0, .int .i64 0, .string (⟨#[]⟩ : ByteArray), .string x0_5, .string a1, .slice none 0 0] 26 (0, 0)) (by (with_reducible repeat (first | refine blk_drewN ?_ _ | refine blk_drew ?_ | refine blk_alloc ?_ _)); exact BK399.out) hb); have n2_ := Aside0.mk (blk_below (g := gb400) (o := .cells #[.int .i64 2, .string (⟨#[]⟩ : ByteArray), .int .i64 0, .int .i64 0, .string (⟨#[]⟩ : ByteArray), .string x0_5, .string (⟨#[]⟩ : ByteArray), .slice none 0 0] 26 (0, 0)) (by (with_reducible repeat (first | refine blk_drewN ?_ _ | refine blk_drew ?_ | refine blk_alloc ?_ _)); exact BK400.out) hb); have n3_ := Aside0.mk (below_step (by repeat (first | (with_reducible first | exact HB.out | apply below_alloc | apply pw_below_drewN | apply below_drew1 | refine below_set ?_ GE399.out | refine below_set ?_ GE400.out) | exact HB.out)) hb); clear HO407; clear BK399; clear BK400; clear HB; have HO407 := n0_; have BK399 := n1_; have BK400 := n2_; have HB := n3_; clear n0_ n1_ n2_ n3_; (try clear hb); (try clear hb2); (try clear hk); (try clear hi)) | (go_at_call 12; (refine (expr_Right.calls kj16 2 (⟨#[]⟩ : ByteArray) 0 0 (⟨#[]⟩ : ByteArray) (⟨#[57]⟩ : ByteArray) (⟨#[]⟩ : ByteArray) _ _ ([] : List (S26)) false _ ?side1 ?side2 ?side3 A61.out).mono ?_); (case side1 => exact Kd.C_nil _ _); (case side2 => exact Nat.le_refl _); (case side3 => exact Glob.below HG.out (by repeat (first | (with_reducible first | exact HB.out | apply below_alloc | apply pw_below_drewN | apply below_drew1 | refine below_set ?_ GE399.out | refine below_set ?_ GE400.out) | exact HB.out))); clear A61; rintro e w70 ⟨rfl, hb⟩; have n0_ := Aside0.mk (Kd.R_below (by (with_reducible repeat (first | apply Kd.R_alloc | apply Kd.R_drewN | apply Kd.R_drew)); exact HO407.out) hb); have n1_ := Aside0.mk (blk_below (g := gb399) (o := .cells #[.int .i64 1, .string (⟨#[]⟩ : ByteArray), .int .i64 0, .int .i64 0, .string (⟨#[]⟩ : ByteArray), .string x0_5, .string a1, .slice none 0 0] 26 (0, 0)) (by (with_reducible repeat (first | refine blk_drewN ?_ _ | refine blk_drew ?_ | refine blk_alloc ?_ _)); exact BK399.out) hb); have n2_ := Aside0.mk (blk_below (g := gb400) (o := .cells #[.int .i64 2, .string (⟨#[]⟩ : ByteArray), .int .i64 0, .int .i64 0, .string (⟨#[]⟩ : ByteArray), .string x0_5, .string (⟨#[]⟩ : ByteArray), .slice none 0 0] 26 (0, 0)) (by (with_reducible repeat (first | refine blk_drewN ?_ _ | refine blk_drew ?_ | refine blk_alloc ?_ _)); exact BK400.out) hb); have n3_ := Aside0.mk (below_step (by repeat (first | (with_reducible first | exact HB.out | apply below_alloc | apply pw_below_drewN | apply below_drew1 | refine below_set ?_ GE399.out | refine below_set ?_ GE400.out) | exact HB.out)) hb); clear HO407; clear BK399; clear BK400; clear HB; have HO407 := n0_; have BK399 := n1_; have BK400 := n2_; have HB := n3_; clear n0_ n1_ n2_ n3_; (try clear hb); (try clear hb2); (try clear hk); (try clear hi); obtain ⟨Ao71, co71, eo71⟩ := Kd.R_slice HO407.out; subst eo71; have p412 : 0 ≤ (0 : Int) := (by omega); have q412 : 0 < (t405.length : Int) := of_decide_eq_true (by first | (with_reducible assumption) | assumption); obtain ⟨ad412, e412, hx412_0⟩ := Kd.at_string (Kd.R_reads' HO407.out).2.2 0 p412 q412; cases e412; have qi412 : (0 < t405.length) = True := eq_true (by omega); (try rw [show ((0 : Int)).toNat = 0 from rfl] at hx412_0); (try rw [Addr.add_zero'] at hx412_0); replace p412 := eq_true p412; replace q412 := eq_true q412))
                        go_ret
                        exact ⟨by first | rfl | (simp [errW_none, errW_some] <;> rfl) | (simp [*, errW_none, errW_some] <;> rfl), by repeat (first | (with_reducible first | exact HB.out | apply below_alloc | apply pw_below_drewN | apply below_drew1 | refine below_set ?_ GE399.out | refine below_set ?_ GE400.out) | exact HB.out)⟩
                      · rw [if_neg c64] at H
                        exact absurd H (by simp)
                    · rw [if_neg c63] at H
                      exact absurd H (by simp)
                · rw [if_neg c60] at H
                  exact absurd H (by simp)
  · replace c5 := Bool.eq_false_iff.mpr c5
    subst c5
    have H1 : (none) = some r := by rw [if_neg (show ¬ (false = true) by decide)] at H; exact H
    clear H
    have H := H1
    clear H1
    exact absurd H (by simp)

end Go.Proofs.YtccaodehgaaheaaDoor.P
