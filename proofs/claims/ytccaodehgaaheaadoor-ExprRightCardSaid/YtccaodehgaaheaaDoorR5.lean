-- Written by this session's program mprint.py over the kit's printer (with hand-written contracts laid in). Not trusted: Lean checks it.
import Derived.Test.YtccaodehgaaheaaDoorR0
import Derived.Test.YtccaodehgaaheaaDoorR1
import Derived.Test.YtccaodehgaaheaaDoorR2
import Derived.Test.YtccaodehgaaheaaDoorR3
import Derived.Test.YtccaodehgaaheaaDoorR4
namespace Go.Proofs.YtccaodehgaaheaaDoor.R
open Go.RowKit Go.Proofs.YtccaodehgaaheaaDoorW.PrintWords Go.Proofs.YtccaodehgaaheaaDoorW.PrintLast Go.Proofs.YtccaodehgaaheaaDoorW.PrintMore
attribute [local go_sem] max2_int min2_int max_two min_two max_three min_three max_four min_four   -- for this text's walks alone
set_option linter.unusedVariables false
set_option linter.unusedSimpArgs false

attribute [local go_sem high] eqA23
/-! ### expr_Expr_head: function 33 -/

theorem emp_is {x : List UInt8} {b : Bool} (h : (x == ([] : List UInt8)) = b) : x.isEmpty = b := by
  subst h; cases x <;> rfl
attribute [local go_sem high] eqA23
theorem expr_Expr_head.bcell {W w1 : World} (hb : Below W.heap.size W w1) : (∀ b o, b < W.heap.size → w1.cell? ⟨b, o, none⟩ = W.cell? ⟨b, o, none⟩) ∧ (∀ b o, b < W.heap.size → w1.frozen? ⟨b, o, none⟩ = W.frozen? ⟨b, o, none⟩) :=
  ⟨fun b o h => hb.cell (p := ⟨b, o, none⟩) h, fun b o h => hb.frozen (p := ⟨b, o, none⟩) h⟩
set_option maxHeartbeats 4000000 in
set_option maxRecDepth 100000 in
theorem expr_Expr_head.k0 (k : Nat) (a0_0 : Int) (a0_1 : ByteArray) (a0_2 : Int) (a0_3 : Int) (a0_4 : ByteArray) (a0_5 : ByteArray) (a0_6 : ByteArray) (A0_7 : Option Addr) (c0_7 : Nat) (l0_7 : List (S26)) (r : Bool) (w : World) (hr0_7 : Kd.C k26 w A0_7 l0_7.length l0_7) (hc0_7 : l0_7.length ≤ c0_7) (hG : Glob w) (h : (value_Right.f a0_2 a0_3 a0_4).bind (fun v => if v = true then (if a0_3 < 0 then some false else (strings_Contains.f a0_4 (⟨#[39]⟩ : ByteArray)).bind fun c => if c = true then some false else some (a0_1.toList == ([] : List UInt8) && (a0_5.toList == ([] : List UInt8) && (a0_6.toList == ([] : List UInt8) && ((l0_7.length : Int) == 0))))) else some false) = some r) :
    Calls Tryd.prog 33 #[.agg #[.int .i64 0, .string a0_1, .int .i64 a0_2, .int .i64 a0_3, .string a0_4, .string a0_5, .string a0_6, .slice A0_7 l0_7.length c0_7]] w fun e w' => e = .returned (.bool r) ∧ Below w.heap.size w w' := by
  have hu26 := Tryd.underlying26
  have hu23 := Tryd.underlying23
  have HG := Aside0.mk hG
  have HC := Aside0.mk hc0_7
  have hbw : ∀ o1 o2, Below w.heap.size w ((w.alloc o1).alloc o2) := fun o1 o2 => below_alloc (below_alloc (Below.refl _ _) _) _
  have HBW := Aside0.mk hbw
  clear hG hr0_7 hc0_7 hbw
  obtain ⟨v, hv, h⟩ := Option.bind_eq_some_iff.1 h
  have HV := Aside0.mk hv
  clear hv
  cases v with
  | false =>
    obtain rfl : false = r := Option.some.inj h
    go_enter Tryd.func33, Tryd.ntmps33
    go_wp2_with (first | (go_at_call 48; refine (value_Right.calls a0_2 a0_3 a0_4 false _ HV.out).mono ?_; rintro e w1 ⟨rfl, hb⟩; obtain ⟨hcl, hfl⟩ := expr_Expr_head.bcell hb; have hz : w.heap.size + 1 < w1.heap.size := (by have h_ := hb.size; simp at h_; omega); have hz0 : w.heap.size < w1.heap.size := Nat.lt_of_succ_lt hz; have HB := Aside0.mk ((HBW.out _ _).trans (hb.mono (by simp <;> omega))); clear hb))
    go_ret
    exact ⟨by first | rfl | (rw [beq_len]), HB.out⟩
  | true =>
    have h : (if a0_3 < 0 then some false else (strings_Contains.f a0_4 (⟨#[39]⟩ : ByteArray)).bind fun c => if c = true then some false else some (a0_1.toList == ([] : List UInt8) && (a0_5.toList == ([] : List UInt8) && (a0_6.toList == ([] : List UInt8) && ((l0_7.length : Int) == 0))))) = some r := h
    by_cases hn : a0_3 < 0
    · rw [if_pos hn] at h
      have hn1 : decide (a0_3 < 0) = true := decide_eq_true hn
      obtain rfl := Option.some.inj h
      go_enter Tryd.func33, Tryd.ntmps33
      go_wp2_with (first | (go_at_call 48; refine (value_Right.calls a0_2 a0_3 a0_4 true _ HV.out).mono ?_; rintro e w1 ⟨rfl, hb⟩; obtain ⟨hcl, hfl⟩ := expr_Expr_head.bcell hb; have hz : w.heap.size + 1 < w1.heap.size := (by have h_ := hb.size; simp at h_; omega); have hz0 : w.heap.size < w1.heap.size := Nat.lt_of_succ_lt hz; have HB := Aside0.mk ((HBW.out _ _).trans (hb.mono (by simp <;> omega))); clear hb))
      go_ret
      exact ⟨by first | rfl | (rw [beq_len]), HB.out⟩
    · rw [if_neg hn] at h
      have hn1 : decide (a0_3 < 0) = false := decide_eq_false hn
      clear hn
      obtain ⟨c, hc, h⟩ := Option.bind_eq_some_iff.1 h
      have HCN := Aside0.mk hc
      clear hc
      cases c with
      | true =>
        obtain rfl : false = r := Option.some.inj h
        go_enter Tryd.func33, Tryd.ntmps33
        go_wp2_with (first | (go_at_call 48; refine (value_Right.calls a0_2 a0_3 a0_4 true _ HV.out).mono ?_; rintro e w1 ⟨rfl, hb⟩; obtain ⟨hcl, hfl⟩ := expr_Expr_head.bcell hb; have hz : w.heap.size + 1 < w1.heap.size := (by have h_ := hb.size; simp at h_; omega); have hz0 : w.heap.size < w1.heap.size := Nat.lt_of_succ_lt hz; have HB := Aside0.mk ((HBW.out _ _).trans (hb.mono (by simp <;> omega))); clear hb) | (go_at_call 49; refine (strings_Contains.calls a0_4 (⟨#[39]⟩ : ByteArray) true _ (Glob.below HG.out HB.out) HCN.out).mono ?_; rintro e w2 ⟨rfl, hd⟩; obtain ⟨nd, rfl⟩ := hd.out; clear hd))
        go_ret
        exact ⟨by first | rfl | (rw [beq_len]), pw_below_drewN HB.out _⟩
      | false =>
        have h : some (a0_1.toList == ([] : List UInt8) && (a0_5.toList == ([] : List UInt8) && (a0_6.toList == ([] : List UInt8) && ((l0_7.length : Int) == 0)))) = some r := h
        cases f4 : (a0_1.toList == ([] : List UInt8)) with
        | false =>
          simp only [f4, Bool.true_and, Bool.false_and, Bool.and_false] at h
          have f41 : a0_1.toList.isEmpty = false := emp_is f4
          have f42 : (!a0_1.toList.isEmpty) = true := by rw [f41]; rfl
          have f43 : (a0_1.toList != ([] : List UInt8)) = true := by unfold bne; rw [f4]; rfl
          obtain rfl := Option.some.inj h
          go_enter Tryd.func33, Tryd.ntmps33
          go_wp2_with (first | (go_at_call 48; refine (value_Right.calls a0_2 a0_3 a0_4 true _ HV.out).mono ?_; rintro e w1 ⟨rfl, hb⟩; obtain ⟨hcl, hfl⟩ := expr_Expr_head.bcell hb; have hz : w.heap.size + 1 < w1.heap.size := (by have h_ := hb.size; simp at h_; omega); have hz0 : w.heap.size < w1.heap.size := Nat.lt_of_succ_lt hz; have HB := Aside0.mk ((HBW.out _ _).trans (hb.mono (by simp <;> omega))); clear hb) | (go_at_call 49; refine (strings_Contains.calls a0_4 (⟨#[39]⟩ : ByteArray) false _ (Glob.below HG.out HB.out) HCN.out).mono ?_; rintro e w2 ⟨rfl, hd⟩; obtain ⟨nd, rfl⟩ := hd.out; clear hd))
          go_ret
          exact ⟨by first | rfl | (rw [beq_len]), pw_below_drewN HB.out _⟩
        | true =>
          simp only [f4, Bool.true_and] at h
          have f41 : a0_1.toList.isEmpty = true := emp_is f4
          have f42 : (!a0_1.toList.isEmpty) = false := by rw [f41]; rfl
          have f43 : (a0_1.toList != ([] : List UInt8)) = false := by unfold bne; rw [f4]; rfl
          cases f5 : (a0_5.toList == ([] : List UInt8)) with
          | false =>
            simp only [f5, Bool.true_and, Bool.false_and, Bool.and_false] at h
            have f51 : a0_5.toList.isEmpty = false := emp_is f5
            have f52 : (!a0_5.toList.isEmpty) = true := by rw [f51]; rfl
            have f53 : (a0_5.toList != ([] : List UInt8)) = true := by unfold bne; rw [f5]; rfl
            obtain rfl := Option.some.inj h
            go_enter Tryd.func33, Tryd.ntmps33
            go_wp2_with (first | (go_at_call 48; refine (value_Right.calls a0_2 a0_3 a0_4 true _ HV.out).mono ?_; rintro e w1 ⟨rfl, hb⟩; obtain ⟨hcl, hfl⟩ := expr_Expr_head.bcell hb; have hz : w.heap.size + 1 < w1.heap.size := (by have h_ := hb.size; simp at h_; omega); have hz0 : w.heap.size < w1.heap.size := Nat.lt_of_succ_lt hz; have HB := Aside0.mk ((HBW.out _ _).trans (hb.mono (by simp <;> omega))); clear hb) | (go_at_call 49; refine (strings_Contains.calls a0_4 (⟨#[39]⟩ : ByteArray) false _ (Glob.below HG.out HB.out) HCN.out).mono ?_; rintro e w2 ⟨rfl, hd⟩; obtain ⟨nd, rfl⟩ := hd.out; clear hd))
            go_ret
            exact ⟨by first | rfl | (rw [beq_len]), pw_below_drewN HB.out _⟩
          | true =>
            simp only [f5, Bool.true_and] at h
            have f51 : a0_5.toList.isEmpty = true := emp_is f5
            have f52 : (!a0_5.toList.isEmpty) = false := by rw [f51]; rfl
            have f53 : (a0_5.toList != ([] : List UInt8)) = false := by unfold bne; rw [f5]; rfl
            cases f6 : (a0_6.toList == ([] : List UInt8)) with
            | false =>
              simp only [f6, Bool.true_and, Bool.false_and, Bool.and_false] at h
              have f61 : a0_6.toList.isEmpty = false := emp_is f6
              have f62 : (!a0_6.toList.isEmpty) = true := by rw [f61]; rfl
              have f63 : (a0_6.toList != ([] : List UInt8)) = true := by unfold bne; rw [f6]; rfl
              obtain rfl := Option.some.inj h
              go_enter Tryd.func33, Tryd.ntmps33
              go_wp2_with (first | (go_at_call 48; refine (value_Right.calls a0_2 a0_3 a0_4 true _ HV.out).mono ?_; rintro e w1 ⟨rfl, hb⟩; obtain ⟨hcl, hfl⟩ := expr_Expr_head.bcell hb; have hz : w.heap.size + 1 < w1.heap.size := (by have h_ := hb.size; simp at h_; omega); have hz0 : w.heap.size < w1.heap.size := Nat.lt_of_succ_lt hz; have HB := Aside0.mk ((HBW.out _ _).trans (hb.mono (by simp <;> omega))); clear hb) | (go_at_call 49; refine (strings_Contains.calls a0_4 (⟨#[39]⟩ : ByteArray) false _ (Glob.below HG.out HB.out) HCN.out).mono ?_; rintro e w2 ⟨rfl, hd⟩; obtain ⟨nd, rfl⟩ := hd.out; clear hd))
              go_ret
              exact ⟨by first | rfl | (rw [beq_len]), pw_below_drewN HB.out _⟩
            | true =>
              simp only [f6, Bool.true_and] at h
              have f61 : a0_6.toList.isEmpty = true := emp_is f6
              have f62 : (!a0_6.toList.isEmpty) = false := by rw [f61]; rfl
              have f63 : (a0_6.toList != ([] : List UInt8)) = false := by unfold bne; rw [f6]; rfl
              obtain rfl := Option.some.inj h
              go_enter Tryd.func33, Tryd.ntmps33
              go_wp2_with (first | (go_at_call 48; refine (value_Right.calls a0_2 a0_3 a0_4 true _ HV.out).mono ?_; rintro e w1 ⟨rfl, hb⟩; obtain ⟨hcl, hfl⟩ := expr_Expr_head.bcell hb; have hz : w.heap.size + 1 < w1.heap.size := (by have h_ := hb.size; simp at h_; omega); have hz0 : w.heap.size < w1.heap.size := Nat.lt_of_succ_lt hz; have HB := Aside0.mk ((HBW.out _ _).trans (hb.mono (by simp <;> omega))); clear hb) | (go_at_call 49; refine (strings_Contains.calls a0_4 (⟨#[39]⟩ : ByteArray) false _ (Glob.below HG.out HB.out) HCN.out).mono ?_; rintro e w2 ⟨rfl, hd⟩; obtain ⟨nd, rfl⟩ := hd.out; clear hd))
              go_ret
              exact ⟨by first | rfl | (rw [beq_len]), pw_below_drewN HB.out _⟩
set_option maxHeartbeats 4000000 in
set_option maxRecDepth 100000 in
theorem expr_Expr_head.k1 (k : Nat) (a0_0 : Int) (a0_1 : ByteArray) (a0_2 : Int) (a0_3 : Int) (a0_4 : ByteArray) (a0_5 : ByteArray) (a0_6 : ByteArray) (A0_7 : Option Addr) (c0_7 : Nat) (l0_7 : List (S26)) (r : Bool) (w : World) (hr0_7 : Kd.C k26 w A0_7 l0_7.length l0_7) (hc0_7 : l0_7.length ≤ c0_7) (hG : Glob w) (h : (stream_IsName.f k a0_5).bind (fun n => if n = true then (stream_IsName.f k a0_6).bind (fun m => if m = true then some (a0_1.toList == ([] : List UInt8) && (a0_2 == (0 : Int) && (a0_3 == (0 : Int) && (a0_4.toList == ([] : List UInt8) && ((l0_7.length : Int) == 0))))) else some false) else some false) = some r) :
    Calls Tryd.prog 33 #[.agg #[.int .i64 1, .string a0_1, .int .i64 a0_2, .int .i64 a0_3, .string a0_4, .string a0_5, .string a0_6, .slice A0_7 l0_7.length c0_7]] w fun e w' => e = .returned (.bool r) ∧ Below w.heap.size w w' := by
  have hu26 := Tryd.underlying26
  have hu23 := Tryd.underlying23
  have HG := Aside0.mk hG
  have HC := Aside0.mk hc0_7
  have hbw : ∀ o1 o2, Below w.heap.size w ((w.alloc o1).alloc o2) := fun o1 o2 => below_alloc (below_alloc (Below.refl _ _) _) _
  have HBW := Aside0.mk hbw
  clear hG hr0_7 hc0_7 hbw
  obtain ⟨v, hv, h⟩ := Option.bind_eq_some_iff.1 h
  have HV := Aside0.mk hv
  clear hv
  cases v with
  | false =>
    obtain rfl : false = r := Option.some.inj h
    go_enter Tryd.func33, Tryd.ntmps33
    go_wp2_with (first | (go_at_call 50; refine (stream_IsName.calls k a0_5 false _ (Glob.below HG.out (HBW.out _ _)) HV.out).mono ?_; rintro e w1 ⟨rfl, hb⟩; obtain ⟨hcl, hfl⟩ := expr_Expr_head.bcell hb; have hz : w.heap.size + 1 < w1.heap.size := (by have h_ := hb.size; simp at h_; omega); have hz0 : w.heap.size < w1.heap.size := Nat.lt_of_succ_lt hz; have HB := Aside0.mk ((HBW.out _ _).trans (hb.mono (by simp <;> omega))); clear hb))
    go_ret
    exact ⟨by first | rfl | (rw [beq_len]), HB.out⟩
  | true =>
    have h : (stream_IsName.f k a0_6).bind (fun m => if m = true then some (a0_1.toList == ([] : List UInt8) && (a0_2 == (0 : Int) && (a0_3 == (0 : Int) && (a0_4.toList == ([] : List UInt8) && ((l0_7.length : Int) == 0))))) else some false) = some r := h
    obtain ⟨m, hm, h⟩ := Option.bind_eq_some_iff.1 h
    have HV2 := Aside0.mk hm
    clear hm
    cases m with
    | false =>
      obtain rfl : false = r := Option.some.inj h
      have tok1 := True.intro
      go_enter Tryd.func33, Tryd.ntmps33
      go_wp2_with (first | (go_at_call 50; have tk_ := tok1; refine (stream_IsName.calls k a0_5 true _ (Glob.below HG.out (HBW.out _ _)) HV.out).mono ?_; rintro e w1 ⟨rfl, hb⟩; obtain ⟨hcl, hfl⟩ := expr_Expr_head.bcell hb; have hz : w.heap.size + 1 < w1.heap.size := (by have h_ := hb.size; simp at h_; omega); have hz0 : w.heap.size < w1.heap.size := Nat.lt_of_succ_lt hz; have HB := Aside0.mk ((HBW.out _ _).trans (hb.mono (by simp <;> omega))); clear hb; clear tok1 tk_) | (go_at_call 50; refine (stream_IsName.calls k a0_6 false _ (Glob.below HG.out HB.out) HV2.out).mono ?_; rintro e w2 ⟨rfl, hb⟩; obtain ⟨hcl2, hfl2⟩ := expr_Expr_head.bcell hb; have HB2 := Aside0.mk (HB.out.trans (hb.mono HB.out.size)); clear hb))
      go_ret
      exact ⟨by first | rfl | (rw [beq_len]), HB2.out⟩
    | true =>
      have h : some (a0_1.toList == ([] : List UInt8) && (a0_2 == (0 : Int) && (a0_3 == (0 : Int) && (a0_4.toList == ([] : List UInt8) && ((l0_7.length : Int) == 0))))) = some r := h
      have tok1 := True.intro
      cases f3 : (a0_1.toList == ([] : List UInt8)) with
      | false =>
        simp only [f3, Bool.true_and, Bool.false_and, Bool.and_false] at h
        have f31 : a0_1.toList.isEmpty = false := emp_is f3
        have f32 : (!a0_1.toList.isEmpty) = true := by rw [f31]; rfl
        have f33 : (a0_1.toList != ([] : List UInt8)) = true := by unfold bne; rw [f3]; rfl
        obtain rfl := Option.some.inj h
        go_enter Tryd.func33, Tryd.ntmps33
        go_wp2_with (first | (go_at_call 50; have tk_ := tok1; refine (stream_IsName.calls k a0_5 true _ (Glob.below HG.out (HBW.out _ _)) HV.out).mono ?_; rintro e w1 ⟨rfl, hb⟩; obtain ⟨hcl, hfl⟩ := expr_Expr_head.bcell hb; have hz : w.heap.size + 1 < w1.heap.size := (by have h_ := hb.size; simp at h_; omega); have hz0 : w.heap.size < w1.heap.size := Nat.lt_of_succ_lt hz; have HB := Aside0.mk ((HBW.out _ _).trans (hb.mono (by simp <;> omega))); clear hb; clear tok1 tk_) | (go_at_call 50; refine (stream_IsName.calls k a0_6 true _ (Glob.below HG.out HB.out) HV2.out).mono ?_; rintro e w2 ⟨rfl, hb⟩; obtain ⟨hcl2, hfl2⟩ := expr_Expr_head.bcell hb; have HB2 := Aside0.mk (HB.out.trans (hb.mono HB.out.size)); clear hb))
        go_ret
        exact ⟨by first | rfl | (rw [beq_len]), HB2.out⟩
      | true =>
        simp only [f3, Bool.true_and] at h
        have f31 : a0_1.toList.isEmpty = true := emp_is f3
        have f32 : (!a0_1.toList.isEmpty) = false := by rw [f31]; rfl
        have f33 : (a0_1.toList != ([] : List UInt8)) = false := by unfold bne; rw [f3]; rfl
        cases f4 : (a0_2 == (0 : Int)) with
        | false =>
          simp only [f4, Bool.true_and, Bool.false_and, Bool.and_false] at h
          obtain rfl := Option.some.inj h
          go_enter Tryd.func33, Tryd.ntmps33
          go_wp2_with (first | (go_at_call 50; have tk_ := tok1; refine (stream_IsName.calls k a0_5 true _ (Glob.below HG.out (HBW.out _ _)) HV.out).mono ?_; rintro e w1 ⟨rfl, hb⟩; obtain ⟨hcl, hfl⟩ := expr_Expr_head.bcell hb; have hz : w.heap.size + 1 < w1.heap.size := (by have h_ := hb.size; simp at h_; omega); have hz0 : w.heap.size < w1.heap.size := Nat.lt_of_succ_lt hz; have HB := Aside0.mk ((HBW.out _ _).trans (hb.mono (by simp <;> omega))); clear hb; clear tok1 tk_) | (go_at_call 50; refine (stream_IsName.calls k a0_6 true _ (Glob.below HG.out HB.out) HV2.out).mono ?_; rintro e w2 ⟨rfl, hb⟩; obtain ⟨hcl2, hfl2⟩ := expr_Expr_head.bcell hb; have HB2 := Aside0.mk (HB.out.trans (hb.mono HB.out.size)); clear hb))
          go_ret
          exact ⟨by first | rfl | (rw [beq_len]), HB2.out⟩
        | true =>
          simp only [f4, Bool.true_and] at h
          cases f5 : (a0_3 == (0 : Int)) with
          | false =>
            simp only [f5, Bool.true_and, Bool.false_and, Bool.and_false] at h
            obtain rfl := Option.some.inj h
            go_enter Tryd.func33, Tryd.ntmps33
            go_wp2_with (first | (go_at_call 50; have tk_ := tok1; refine (stream_IsName.calls k a0_5 true _ (Glob.below HG.out (HBW.out _ _)) HV.out).mono ?_; rintro e w1 ⟨rfl, hb⟩; obtain ⟨hcl, hfl⟩ := expr_Expr_head.bcell hb; have hz : w.heap.size + 1 < w1.heap.size := (by have h_ := hb.size; simp at h_; omega); have hz0 : w.heap.size < w1.heap.size := Nat.lt_of_succ_lt hz; have HB := Aside0.mk ((HBW.out _ _).trans (hb.mono (by simp <;> omega))); clear hb; clear tok1 tk_) | (go_at_call 50; refine (stream_IsName.calls k a0_6 true _ (Glob.below HG.out HB.out) HV2.out).mono ?_; rintro e w2 ⟨rfl, hb⟩; obtain ⟨hcl2, hfl2⟩ := expr_Expr_head.bcell hb; have HB2 := Aside0.mk (HB.out.trans (hb.mono HB.out.size)); clear hb))
            go_ret
            exact ⟨by first | rfl | (rw [beq_len]), HB2.out⟩
          | true =>
            simp only [f5, Bool.true_and] at h
            cases f6 : (a0_4.toList == ([] : List UInt8)) with
            | false =>
              simp only [f6, Bool.true_and, Bool.false_and, Bool.and_false] at h
              have f61 : a0_4.toList.isEmpty = false := emp_is f6
              have f62 : (!a0_4.toList.isEmpty) = true := by rw [f61]; rfl
              have f63 : (a0_4.toList != ([] : List UInt8)) = true := by unfold bne; rw [f6]; rfl
              obtain rfl := Option.some.inj h
              go_enter Tryd.func33, Tryd.ntmps33
              go_wp2_with (first | (go_at_call 50; have tk_ := tok1; refine (stream_IsName.calls k a0_5 true _ (Glob.below HG.out (HBW.out _ _)) HV.out).mono ?_; rintro e w1 ⟨rfl, hb⟩; obtain ⟨hcl, hfl⟩ := expr_Expr_head.bcell hb; have hz : w.heap.size + 1 < w1.heap.size := (by have h_ := hb.size; simp at h_; omega); have hz0 : w.heap.size < w1.heap.size := Nat.lt_of_succ_lt hz; have HB := Aside0.mk ((HBW.out _ _).trans (hb.mono (by simp <;> omega))); clear hb; clear tok1 tk_) | (go_at_call 50; refine (stream_IsName.calls k a0_6 true _ (Glob.below HG.out HB.out) HV2.out).mono ?_; rintro e w2 ⟨rfl, hb⟩; obtain ⟨hcl2, hfl2⟩ := expr_Expr_head.bcell hb; have HB2 := Aside0.mk (HB.out.trans (hb.mono HB.out.size)); clear hb))
              go_ret
              exact ⟨by first | rfl | (rw [beq_len]), HB2.out⟩
            | true =>
              simp only [f6, Bool.true_and] at h
              have f61 : a0_4.toList.isEmpty = true := emp_is f6
              have f62 : (!a0_4.toList.isEmpty) = false := by rw [f61]; rfl
              have f63 : (a0_4.toList != ([] : List UInt8)) = false := by unfold bne; rw [f6]; rfl
              obtain rfl := Option.some.inj h
              go_enter Tryd.func33, Tryd.ntmps33
              go_wp2_with (first | (go_at_call 50; have tk_ := tok1; refine (stream_IsName.calls k a0_5 true _ (Glob.below HG.out (HBW.out _ _)) HV.out).mono ?_; rintro e w1 ⟨rfl, hb⟩; obtain ⟨hcl, hfl⟩ := expr_Expr_head.bcell hb; have hz : w.heap.size + 1 < w1.heap.size := (by have h_ := hb.size; simp at h_; omega); have hz0 : w.heap.size < w1.heap.size := Nat.lt_of_succ_lt hz; have HB := Aside0.mk ((HBW.out _ _).trans (hb.mono (by simp <;> omega))); clear hb; clear tok1 tk_) | (go_at_call 50; refine (stream_IsName.calls k a0_6 true _ (Glob.below HG.out HB.out) HV2.out).mono ?_; rintro e w2 ⟨rfl, hb⟩; obtain ⟨hcl2, hfl2⟩ := expr_Expr_head.bcell hb; have HB2 := Aside0.mk (HB.out.trans (hb.mono HB.out.size)); clear hb))
              go_ret
              exact ⟨by first | rfl | (rw [beq_len]), HB2.out⟩
set_option maxHeartbeats 4000000 in
set_option maxRecDepth 100000 in
theorem expr_Expr_head.k2 (k : Nat) (a0_0 : Int) (a0_1 : ByteArray) (a0_2 : Int) (a0_3 : Int) (a0_4 : ByteArray) (a0_5 : ByteArray) (a0_6 : ByteArray) (A0_7 : Option Addr) (c0_7 : Nat) (l0_7 : List (S26)) (r : Bool) (w : World) (hr0_7 : Kd.C k26 w A0_7 l0_7.length l0_7) (hc0_7 : l0_7.length ≤ c0_7) (hG : Glob w) (h : (stream_IsName.f k a0_5).bind (fun n => if n = true then some (a0_1.toList == ([] : List UInt8) && (a0_6.toList == ([] : List UInt8) && (a0_2 == (0 : Int) && (a0_3 == (0 : Int) && (a0_4.toList == ([] : List UInt8) && ((l0_7.length : Int) == 0)))))) else some false) = some r) :
    Calls Tryd.prog 33 #[.agg #[.int .i64 2, .string a0_1, .int .i64 a0_2, .int .i64 a0_3, .string a0_4, .string a0_5, .string a0_6, .slice A0_7 l0_7.length c0_7]] w fun e w' => e = .returned (.bool r) ∧ Below w.heap.size w w' := by
  have hu26 := Tryd.underlying26
  have hu23 := Tryd.underlying23
  have HG := Aside0.mk hG
  have HC := Aside0.mk hc0_7
  have hbw : ∀ o1 o2, Below w.heap.size w ((w.alloc o1).alloc o2) := fun o1 o2 => below_alloc (below_alloc (Below.refl _ _) _) _
  have HBW := Aside0.mk hbw
  clear hG hr0_7 hc0_7 hbw
  obtain ⟨v, hv, h⟩ := Option.bind_eq_some_iff.1 h
  have HV := Aside0.mk hv
  clear hv
  cases v with
  | false =>
    obtain rfl : false = r := Option.some.inj h
    go_enter Tryd.func33, Tryd.ntmps33
    go_wp2_with (first | (go_at_call 50; refine (stream_IsName.calls k a0_5 false _ (Glob.below HG.out (HBW.out _ _)) HV.out).mono ?_; rintro e w1 ⟨rfl, hb⟩; obtain ⟨hcl, hfl⟩ := expr_Expr_head.bcell hb; have hz : w.heap.size + 1 < w1.heap.size := (by have h_ := hb.size; simp at h_; omega); have hz0 : w.heap.size < w1.heap.size := Nat.lt_of_succ_lt hz; have HB := Aside0.mk ((HBW.out _ _).trans (hb.mono (by simp <;> omega))); clear hb))
    go_ret
    exact ⟨by first | rfl | (rw [beq_len]), HB.out⟩
  | true =>
    have h : some (a0_1.toList == ([] : List UInt8) && (a0_6.toList == ([] : List UInt8) && (a0_2 == (0 : Int) && (a0_3 == (0 : Int) && (a0_4.toList == ([] : List UInt8) && ((l0_7.length : Int) == 0)))))) = some r := h
    cases f2 : (a0_1.toList == ([] : List UInt8)) with
    | false =>
      simp only [f2, Bool.true_and, Bool.false_and, Bool.and_false] at h
      have f21 : a0_1.toList.isEmpty = false := emp_is f2
      have f22 : (!a0_1.toList.isEmpty) = true := by rw [f21]; rfl
      have f23 : (a0_1.toList != ([] : List UInt8)) = true := by unfold bne; rw [f2]; rfl
      obtain rfl := Option.some.inj h
      go_enter Tryd.func33, Tryd.ntmps33
      go_wp2_with (first | (go_at_call 50; refine (stream_IsName.calls k a0_5 true _ (Glob.below HG.out (HBW.out _ _)) HV.out).mono ?_; rintro e w1 ⟨rfl, hb⟩; obtain ⟨hcl, hfl⟩ := expr_Expr_head.bcell hb; have hz : w.heap.size + 1 < w1.heap.size := (by have h_ := hb.size; simp at h_; omega); have hz0 : w.heap.size < w1.heap.size := Nat.lt_of_succ_lt hz; have HB := Aside0.mk ((HBW.out _ _).trans (hb.mono (by simp <;> omega))); clear hb))
      go_ret
      exact ⟨by first | rfl | (rw [beq_len]), HB.out⟩
    | true =>
      simp only [f2, Bool.true_and] at h
      have f21 : a0_1.toList.isEmpty = true := emp_is f2
      have f22 : (!a0_1.toList.isEmpty) = false := by rw [f21]; rfl
      have f23 : (a0_1.toList != ([] : List UInt8)) = false := by unfold bne; rw [f2]; rfl
      cases f3 : (a0_6.toList == ([] : List UInt8)) with
      | false =>
        simp only [f3, Bool.true_and, Bool.false_and, Bool.and_false] at h
        have f31 : a0_6.toList.isEmpty = false := emp_is f3
        have f32 : (!a0_6.toList.isEmpty) = true := by rw [f31]; rfl
        have f33 : (a0_6.toList != ([] : List UInt8)) = true := by unfold bne; rw [f3]; rfl
        obtain rfl := Option.some.inj h
        go_enter Tryd.func33, Tryd.ntmps33
        go_wp2_with (first | (go_at_call 50; refine (stream_IsName.calls k a0_5 true _ (Glob.below HG.out (HBW.out _ _)) HV.out).mono ?_; rintro e w1 ⟨rfl, hb⟩; obtain ⟨hcl, hfl⟩ := expr_Expr_head.bcell hb; have hz : w.heap.size + 1 < w1.heap.size := (by have h_ := hb.size; simp at h_; omega); have hz0 : w.heap.size < w1.heap.size := Nat.lt_of_succ_lt hz; have HB := Aside0.mk ((HBW.out _ _).trans (hb.mono (by simp <;> omega))); clear hb))
        go_ret
        exact ⟨by first | rfl | (rw [beq_len]), HB.out⟩
      | true =>
        simp only [f3, Bool.true_and] at h
        have f31 : a0_6.toList.isEmpty = true := emp_is f3
        have f32 : (!a0_6.toList.isEmpty) = false := by rw [f31]; rfl
        have f33 : (a0_6.toList != ([] : List UInt8)) = false := by unfold bne; rw [f3]; rfl
        cases f4 : (a0_2 == (0 : Int)) with
        | false =>
          simp only [f4, Bool.true_and, Bool.false_and, Bool.and_false] at h
          obtain rfl := Option.some.inj h
          go_enter Tryd.func33, Tryd.ntmps33
          go_wp2_with (first | (go_at_call 50; refine (stream_IsName.calls k a0_5 true _ (Glob.below HG.out (HBW.out _ _)) HV.out).mono ?_; rintro e w1 ⟨rfl, hb⟩; obtain ⟨hcl, hfl⟩ := expr_Expr_head.bcell hb; have hz : w.heap.size + 1 < w1.heap.size := (by have h_ := hb.size; simp at h_; omega); have hz0 : w.heap.size < w1.heap.size := Nat.lt_of_succ_lt hz; have HB := Aside0.mk ((HBW.out _ _).trans (hb.mono (by simp <;> omega))); clear hb))
          go_ret
          exact ⟨by first | rfl | (rw [beq_len]), HB.out⟩
        | true =>
          simp only [f4, Bool.true_and] at h
          cases f5 : (a0_3 == (0 : Int)) with
          | false =>
            simp only [f5, Bool.true_and, Bool.false_and, Bool.and_false] at h
            obtain rfl := Option.some.inj h
            go_enter Tryd.func33, Tryd.ntmps33
            go_wp2_with (first | (go_at_call 50; refine (stream_IsName.calls k a0_5 true _ (Glob.below HG.out (HBW.out _ _)) HV.out).mono ?_; rintro e w1 ⟨rfl, hb⟩; obtain ⟨hcl, hfl⟩ := expr_Expr_head.bcell hb; have hz : w.heap.size + 1 < w1.heap.size := (by have h_ := hb.size; simp at h_; omega); have hz0 : w.heap.size < w1.heap.size := Nat.lt_of_succ_lt hz; have HB := Aside0.mk ((HBW.out _ _).trans (hb.mono (by simp <;> omega))); clear hb))
            go_ret
            exact ⟨by first | rfl | (rw [beq_len]), HB.out⟩
          | true =>
            simp only [f5, Bool.true_and] at h
            cases f6 : (a0_4.toList == ([] : List UInt8)) with
            | false =>
              simp only [f6, Bool.true_and, Bool.false_and, Bool.and_false] at h
              have f61 : a0_4.toList.isEmpty = false := emp_is f6
              have f62 : (!a0_4.toList.isEmpty) = true := by rw [f61]; rfl
              have f63 : (a0_4.toList != ([] : List UInt8)) = true := by unfold bne; rw [f6]; rfl
              obtain rfl := Option.some.inj h
              go_enter Tryd.func33, Tryd.ntmps33
              go_wp2_with (first | (go_at_call 50; refine (stream_IsName.calls k a0_5 true _ (Glob.below HG.out (HBW.out _ _)) HV.out).mono ?_; rintro e w1 ⟨rfl, hb⟩; obtain ⟨hcl, hfl⟩ := expr_Expr_head.bcell hb; have hz : w.heap.size + 1 < w1.heap.size := (by have h_ := hb.size; simp at h_; omega); have hz0 : w.heap.size < w1.heap.size := Nat.lt_of_succ_lt hz; have HB := Aside0.mk ((HBW.out _ _).trans (hb.mono (by simp <;> omega))); clear hb))
              go_ret
              exact ⟨by first | rfl | (rw [beq_len]), HB.out⟩
            | true =>
              simp only [f6, Bool.true_and] at h
              have f61 : a0_4.toList.isEmpty = true := emp_is f6
              have f62 : (!a0_4.toList.isEmpty) = false := by rw [f61]; rfl
              have f63 : (a0_4.toList != ([] : List UInt8)) = false := by unfold bne; rw [f6]; rfl
              obtain rfl := Option.some.inj h
              go_enter Tryd.func33, Tryd.ntmps33
              go_wp2_with (first | (go_at_call 50; refine (stream_IsName.calls k a0_5 true _ (Glob.below HG.out (HBW.out _ _)) HV.out).mono ?_; rintro e w1 ⟨rfl, hb⟩; obtain ⟨hcl, hfl⟩ := expr_Expr_head.bcell hb; have hz : w.heap.size + 1 < w1.heap.size := (by have h_ := hb.size; simp at h_; omega); have hz0 : w.heap.size < w1.heap.size := Nat.lt_of_succ_lt hz; have HB := Aside0.mk ((HBW.out _ _).trans (hb.mono (by simp <;> omega))); clear hb))
              go_ret
              exact ⟨by first | rfl | (rw [beq_len]), HB.out⟩
set_option maxHeartbeats 4000000 in
set_option maxRecDepth 100000 in
theorem expr_Expr_head.k3 (k : Nat) (a0_0 : Int) (a0_1 : ByteArray) (a0_2 : Int) (a0_3 : Int) (a0_4 : ByteArray) (a0_5 : ByteArray) (a0_6 : ByteArray) (A0_7 : Option Addr) (c0_7 : Nat) (l0_7 : List (S26)) (r : Bool) (w : World) (hr0_7 : Kd.C k26 w A0_7 l0_7.length l0_7) (hc0_7 : l0_7.length ≤ c0_7) (hG : Glob w) (h : (if (a0_1.toList == ([45] : List UInt8) || a0_1.toList == ([33] : List UInt8)) = true then some (a0_5.toList == ([] : List UInt8) && (a0_6.toList == ([] : List UInt8) && (a0_2 == (0 : Int) && (a0_3 == (0 : Int) && (a0_4.toList == ([] : List UInt8) && ((l0_7.length : Int) == 1)))))) else some false) = some r) :
    Calls Tryd.prog 33 #[.agg #[.int .i64 3, .string a0_1, .int .i64 a0_2, .int .i64 a0_3, .string a0_4, .string a0_5, .string a0_6, .slice A0_7 l0_7.length c0_7]] w fun e w' => e = .returned (.bool r) ∧ Below w.heap.size w w' := by
  have hu26 := Tryd.underlying26
  have hu23 := Tryd.underlying23
  have HG := Aside0.mk hG
  have HC := Aside0.mk hc0_7
  have hbw : ∀ o1 o2, Below w.heap.size w ((w.alloc o1).alloc o2) := fun o1 o2 => below_alloc (below_alloc (Below.refl _ _) _) _
  have HBW := Aside0.mk hbw
  clear hG hr0_7 hc0_7 hbw
  cases m1 : (a0_1.toList == ([45] : List UInt8)) with
  | true =>
    have m2 : (a0_1.toList != ([45] : List UInt8)) = false := by unfold bne; rw [m1]; rfl
    rw [m1, Bool.true_or, if_pos rfl] at h
    cases f2 : (a0_5.toList == ([] : List UInt8)) with
    | false =>
      simp only [f2, Bool.true_and, Bool.false_and, Bool.and_false] at h
      have f21 : a0_5.toList.isEmpty = false := emp_is f2
      have f22 : (!a0_5.toList.isEmpty) = true := by rw [f21]; rfl
      have f23 : (a0_5.toList != ([] : List UInt8)) = true := by unfold bne; rw [f2]; rfl
      obtain rfl := Option.some.inj h
      go_enter Tryd.func33, Tryd.ntmps33
      go_wp2
      go_ret
      exact ⟨by first | rfl | (rw [beq_len]), HBW.out _ _⟩
    | true =>
      simp only [f2, Bool.true_and] at h
      have f21 : a0_5.toList.isEmpty = true := emp_is f2
      have f22 : (!a0_5.toList.isEmpty) = false := by rw [f21]; rfl
      have f23 : (a0_5.toList != ([] : List UInt8)) = false := by unfold bne; rw [f2]; rfl
      cases f3 : (a0_6.toList == ([] : List UInt8)) with
      | false =>
        simp only [f3, Bool.true_and, Bool.false_and, Bool.and_false] at h
        have f31 : a0_6.toList.isEmpty = false := emp_is f3
        have f32 : (!a0_6.toList.isEmpty) = true := by rw [f31]; rfl
        have f33 : (a0_6.toList != ([] : List UInt8)) = true := by unfold bne; rw [f3]; rfl
        obtain rfl := Option.some.inj h
        go_enter Tryd.func33, Tryd.ntmps33
        go_wp2
        go_ret
        exact ⟨by first | rfl | (rw [beq_len]), HBW.out _ _⟩
      | true =>
        simp only [f3, Bool.true_and] at h
        have f31 : a0_6.toList.isEmpty = true := emp_is f3
        have f32 : (!a0_6.toList.isEmpty) = false := by rw [f31]; rfl
        have f33 : (a0_6.toList != ([] : List UInt8)) = false := by unfold bne; rw [f3]; rfl
        cases f4 : (a0_2 == (0 : Int)) with
        | false =>
          simp only [f4, Bool.true_and, Bool.false_and, Bool.and_false] at h
          obtain rfl := Option.some.inj h
          go_enter Tryd.func33, Tryd.ntmps33
          go_wp2
          go_ret
          exact ⟨by first | rfl | (rw [beq_len]), HBW.out _ _⟩
        | true =>
          simp only [f4, Bool.true_and] at h
          cases f5 : (a0_3 == (0 : Int)) with
          | false =>
            simp only [f5, Bool.true_and, Bool.false_and, Bool.and_false] at h
            obtain rfl := Option.some.inj h
            go_enter Tryd.func33, Tryd.ntmps33
            go_wp2
            go_ret
            exact ⟨by first | rfl | (rw [beq_len]), HBW.out _ _⟩
          | true =>
            simp only [f5, Bool.true_and] at h
            cases f6 : (a0_4.toList == ([] : List UInt8)) with
            | false =>
              simp only [f6, Bool.true_and, Bool.false_and, Bool.and_false] at h
              have f61 : a0_4.toList.isEmpty = false := emp_is f6
              have f62 : (!a0_4.toList.isEmpty) = true := by rw [f61]; rfl
              have f63 : (a0_4.toList != ([] : List UInt8)) = true := by unfold bne; rw [f6]; rfl
              obtain rfl := Option.some.inj h
              go_enter Tryd.func33, Tryd.ntmps33
              go_wp2
              go_ret
              exact ⟨by first | rfl | (rw [beq_len]), HBW.out _ _⟩
            | true =>
              simp only [f6, Bool.true_and] at h
              have f61 : a0_4.toList.isEmpty = true := emp_is f6
              have f62 : (!a0_4.toList.isEmpty) = false := by rw [f61]; rfl
              have f63 : (a0_4.toList != ([] : List UInt8)) = false := by unfold bne; rw [f6]; rfl
              obtain rfl := Option.some.inj h
              go_enter Tryd.func33, Tryd.ntmps33
              go_wp2
              go_ret
              exact ⟨by first | rfl | (rw [beq_len]), HBW.out _ _⟩
  | false =>
    have m2 : (a0_1.toList != ([45] : List UInt8)) = true := by unfold bne; rw [m1]; rfl
    rw [m1, Bool.false_or] at h
    cases m3 : (a0_1.toList == ([33] : List UInt8)) with
    | true =>
      have m4 : (a0_1.toList != ([33] : List UInt8)) = false := by unfold bne; rw [m3]; rfl
      rw [m3, if_pos rfl] at h
      cases f3 : (a0_5.toList == ([] : List UInt8)) with
      | false =>
        simp only [f3, Bool.true_and, Bool.false_and, Bool.and_false] at h
        have f31 : a0_5.toList.isEmpty = false := emp_is f3
        have f32 : (!a0_5.toList.isEmpty) = true := by rw [f31]; rfl
        have f33 : (a0_5.toList != ([] : List UInt8)) = true := by unfold bne; rw [f3]; rfl
        obtain rfl := Option.some.inj h
        go_enter Tryd.func33, Tryd.ntmps33
        go_wp2
        go_ret
        exact ⟨by first | rfl | (rw [beq_len]), HBW.out _ _⟩
      | true =>
        simp only [f3, Bool.true_and] at h
        have f31 : a0_5.toList.isEmpty = true := emp_is f3
        have f32 : (!a0_5.toList.isEmpty) = false := by rw [f31]; rfl
        have f33 : (a0_5.toList != ([] : List UInt8)) = false := by unfold bne; rw [f3]; rfl
        cases f4 : (a0_6.toList == ([] : List UInt8)) with
        | false =>
          simp only [f4, Bool.true_and, Bool.false_and, Bool.and_false] at h
          have f41 : a0_6.toList.isEmpty = false := emp_is f4
          have f42 : (!a0_6.toList.isEmpty) = true := by rw [f41]; rfl
          have f43 : (a0_6.toList != ([] : List UInt8)) = true := by unfold bne; rw [f4]; rfl
          obtain rfl := Option.some.inj h
          go_enter Tryd.func33, Tryd.ntmps33
          go_wp2
          go_ret
          exact ⟨by first | rfl | (rw [beq_len]), HBW.out _ _⟩
        | true =>
          simp only [f4, Bool.true_and] at h
          have f41 : a0_6.toList.isEmpty = true := emp_is f4
          have f42 : (!a0_6.toList.isEmpty) = false := by rw [f41]; rfl
          have f43 : (a0_6.toList != ([] : List UInt8)) = false := by unfold bne; rw [f4]; rfl
          cases f5 : (a0_2 == (0 : Int)) with
          | false =>
            simp only [f5, Bool.true_and, Bool.false_and, Bool.and_false] at h
            obtain rfl := Option.some.inj h
            go_enter Tryd.func33, Tryd.ntmps33
            go_wp2
            go_ret
            exact ⟨by first | rfl | (rw [beq_len]), HBW.out _ _⟩
          | true =>
            simp only [f5, Bool.true_and] at h
            cases f6 : (a0_3 == (0 : Int)) with
            | false =>
              simp only [f6, Bool.true_and, Bool.false_and, Bool.and_false] at h
              obtain rfl := Option.some.inj h
              go_enter Tryd.func33, Tryd.ntmps33
              go_wp2
              go_ret
              exact ⟨by first | rfl | (rw [beq_len]), HBW.out _ _⟩
            | true =>
              simp only [f6, Bool.true_and] at h
              cases f7 : (a0_4.toList == ([] : List UInt8)) with
              | false =>
                simp only [f7, Bool.true_and, Bool.false_and, Bool.and_false] at h
                have f71 : a0_4.toList.isEmpty = false := emp_is f7
                have f72 : (!a0_4.toList.isEmpty) = true := by rw [f71]; rfl
                have f73 : (a0_4.toList != ([] : List UInt8)) = true := by unfold bne; rw [f7]; rfl
                obtain rfl := Option.some.inj h
                go_enter Tryd.func33, Tryd.ntmps33
                go_wp2
                go_ret
                exact ⟨by first | rfl | (rw [beq_len]), HBW.out _ _⟩
              | true =>
                simp only [f7, Bool.true_and] at h
                have f71 : a0_4.toList.isEmpty = true := emp_is f7
                have f72 : (!a0_4.toList.isEmpty) = false := by rw [f71]; rfl
                have f73 : (a0_4.toList != ([] : List UInt8)) = false := by unfold bne; rw [f7]; rfl
                obtain rfl := Option.some.inj h
                go_enter Tryd.func33, Tryd.ntmps33
                go_wp2
                go_ret
                exact ⟨by first | rfl | (rw [beq_len]), HBW.out _ _⟩
    | false =>
      have m4 : (a0_1.toList != ([33] : List UInt8)) = true := by unfold bne; rw [m3]; rfl
      rw [m3, if_neg (by simp)] at h
      obtain rfl := Option.some.inj h
      go_enter Tryd.func33, Tryd.ntmps33
      go_wp2
      go_ret
      exact ⟨by first | rfl | (rw [beq_len]), HBW.out _ _⟩
set_option maxHeartbeats 4000000 in
set_option maxRecDepth 100000 in
theorem expr_Expr_head.k4 (k : Nat) (a0_0 : Int) (a0_1 : ByteArray) (a0_2 : Int) (a0_3 : Int) (a0_4 : ByteArray) (a0_5 : ByteArray) (a0_6 : ByteArray) (A0_7 : Option Addr) (c0_7 : Nat) (l0_7 : List (S26)) (r : Bool) (w : World) (hr0_7 : Kd.C k26 w A0_7 l0_7.length l0_7) (hc0_7 : l0_7.length ≤ c0_7) (hG : Glob w) (h : (expr_Level.f k a0_1).bind (fun v => if (v == (0 : Int)) = true then some false else some (a0_5.toList == ([] : List UInt8) && (a0_6.toList == ([] : List UInt8) && (a0_2 == (0 : Int) && (a0_3 == (0 : Int) && (a0_4.toList == ([] : List UInt8) && ((l0_7.length : Int) == 2))))))) = some r) :
    Calls Tryd.prog 33 #[.agg #[.int .i64 4, .string a0_1, .int .i64 a0_2, .int .i64 a0_3, .string a0_4, .string a0_5, .string a0_6, .slice A0_7 l0_7.length c0_7]] w fun e w' => e = .returned (.bool r) ∧ Below w.heap.size w w' := by
  have hu26 := Tryd.underlying26
  have hu23 := Tryd.underlying23
  have HG := Aside0.mk hG
  have HC := Aside0.mk hc0_7
  have hbw : ∀ o1 o2, Below w.heap.size w ((w.alloc o1).alloc o2) := fun o1 o2 => below_alloc (below_alloc (Below.refl _ _) _) _
  have HBW := Aside0.mk hbw
  clear hG hr0_7 hc0_7 hbw
  obtain ⟨v, hv, h⟩ := Option.bind_eq_some_iff.1 h
  have HV := Aside0.mk hv
  clear hv
  cases v0 : (v == (0 : Int)) with
  | true =>
    rw [v0, if_pos rfl] at h
    obtain rfl := Option.some.inj h
    go_enter Tryd.func33, Tryd.ntmps33
    go_wp2_with (first | (go_at_call 19; refine (expr_Level.calls k a0_1 _ _ HV.out).mono ?_; rintro e w1 ⟨rfl, hd⟩; obtain ⟨nd, rfl⟩ := hd.out; clear hd))
    go_ret
    exact ⟨by first | rfl | (rw [beq_len]), pw_below_drewN (HBW.out _ _) _⟩
  | false =>
    rw [v0, if_neg (by simp)] at h
    cases f2 : (a0_5.toList == ([] : List UInt8)) with
    | false =>
      simp only [f2, Bool.true_and, Bool.false_and, Bool.and_false] at h
      have f21 : a0_5.toList.isEmpty = false := emp_is f2
      have f22 : (!a0_5.toList.isEmpty) = true := by rw [f21]; rfl
      have f23 : (a0_5.toList != ([] : List UInt8)) = true := by unfold bne; rw [f2]; rfl
      obtain rfl := Option.some.inj h
      go_enter Tryd.func33, Tryd.ntmps33
      go_wp2_with (first | (go_at_call 19; refine (expr_Level.calls k a0_1 _ _ HV.out).mono ?_; rintro e w1 ⟨rfl, hd⟩; obtain ⟨nd, rfl⟩ := hd.out; clear hd))
      go_ret
      exact ⟨by first | rfl | (rw [beq_len]), pw_below_drewN (HBW.out _ _) _⟩
    | true =>
      simp only [f2, Bool.true_and] at h
      have f21 : a0_5.toList.isEmpty = true := emp_is f2
      have f22 : (!a0_5.toList.isEmpty) = false := by rw [f21]; rfl
      have f23 : (a0_5.toList != ([] : List UInt8)) = false := by unfold bne; rw [f2]; rfl
      cases f3 : (a0_6.toList == ([] : List UInt8)) with
      | false =>
        simp only [f3, Bool.true_and, Bool.false_and, Bool.and_false] at h
        have f31 : a0_6.toList.isEmpty = false := emp_is f3
        have f32 : (!a0_6.toList.isEmpty) = true := by rw [f31]; rfl
        have f33 : (a0_6.toList != ([] : List UInt8)) = true := by unfold bne; rw [f3]; rfl
        obtain rfl := Option.some.inj h
        go_enter Tryd.func33, Tryd.ntmps33
        go_wp2_with (first | (go_at_call 19; refine (expr_Level.calls k a0_1 _ _ HV.out).mono ?_; rintro e w1 ⟨rfl, hd⟩; obtain ⟨nd, rfl⟩ := hd.out; clear hd))
        go_ret
        exact ⟨by first | rfl | (rw [beq_len]), pw_below_drewN (HBW.out _ _) _⟩
      | true =>
        simp only [f3, Bool.true_and] at h
        have f31 : a0_6.toList.isEmpty = true := emp_is f3
        have f32 : (!a0_6.toList.isEmpty) = false := by rw [f31]; rfl
        have f33 : (a0_6.toList != ([] : List UInt8)) = false := by unfold bne; rw [f3]; rfl
        cases f4 : (a0_2 == (0 : Int)) with
        | false =>
          simp only [f4, Bool.true_and, Bool.false_and, Bool.and_false] at h
          obtain rfl := Option.some.inj h
          go_enter Tryd.func33, Tryd.ntmps33
          go_wp2_with (first | (go_at_call 19; refine (expr_Level.calls k a0_1 _ _ HV.out).mono ?_; rintro e w1 ⟨rfl, hd⟩; obtain ⟨nd, rfl⟩ := hd.out; clear hd))
          go_ret
          exact ⟨by first | rfl | (rw [beq_len]), pw_below_drewN (HBW.out _ _) _⟩
        | true =>
          simp only [f4, Bool.true_and] at h
          cases f5 : (a0_3 == (0 : Int)) with
          | false =>
            simp only [f5, Bool.true_and, Bool.false_and, Bool.and_false] at h
            obtain rfl := Option.some.inj h
            go_enter Tryd.func33, Tryd.ntmps33
            go_wp2_with (first | (go_at_call 19; refine (expr_Level.calls k a0_1 _ _ HV.out).mono ?_; rintro e w1 ⟨rfl, hd⟩; obtain ⟨nd, rfl⟩ := hd.out; clear hd))
            go_ret
            exact ⟨by first | rfl | (rw [beq_len]), pw_below_drewN (HBW.out _ _) _⟩
          | true =>
            simp only [f5, Bool.true_and] at h
            cases f6 : (a0_4.toList == ([] : List UInt8)) with
            | false =>
              simp only [f6, Bool.true_and, Bool.false_and, Bool.and_false] at h
              have f61 : a0_4.toList.isEmpty = false := emp_is f6
              have f62 : (!a0_4.toList.isEmpty) = true := by rw [f61]; rfl
              have f63 : (a0_4.toList != ([] : List UInt8)) = true := by unfold bne; rw [f6]; rfl
              obtain rfl := Option.some.inj h
              go_enter Tryd.func33, Tryd.ntmps33
              go_wp2_with (first | (go_at_call 19; refine (expr_Level.calls k a0_1 _ _ HV.out).mono ?_; rintro e w1 ⟨rfl, hd⟩; obtain ⟨nd, rfl⟩ := hd.out; clear hd))
              go_ret
              exact ⟨by first | rfl | (rw [beq_len]), pw_below_drewN (HBW.out _ _) _⟩
            | true =>
              simp only [f6, Bool.true_and] at h
              have f61 : a0_4.toList.isEmpty = true := emp_is f6
              have f62 : (!a0_4.toList.isEmpty) = false := by rw [f61]; rfl
              have f63 : (a0_4.toList != ([] : List UInt8)) = false := by unfold bne; rw [f6]; rfl
              obtain rfl := Option.some.inj h
              go_enter Tryd.func33, Tryd.ntmps33
              go_wp2_with (first | (go_at_call 19; refine (expr_Level.calls k a0_1 _ _ HV.out).mono ?_; rintro e w1 ⟨rfl, hd⟩; obtain ⟨nd, rfl⟩ := hd.out; clear hd))
              go_ret
              exact ⟨by first | rfl | (rw [beq_len]), pw_below_drewN (HBW.out _ _) _⟩
set_option maxHeartbeats 4000000 in
set_option maxRecDepth 100000 in
theorem expr_Expr_head.k9 (k : Nat) (a0_0 : Int) (a0_1 : ByteArray) (a0_2 : Int) (a0_3 : Int) (a0_4 : ByteArray) (a0_5 : ByteArray) (a0_6 : ByteArray) (A0_7 : Option Addr) (c0_7 : Nat) (l0_7 : List (S26)) (r : Bool) (w : World) (hr0_7 : Kd.C k26 w A0_7 l0_7.length l0_7) (hc0_7 : l0_7.length ≤ c0_7) (hG : Glob w) (h0 : a0_0 ≠ 0) (h1 : a0_0 ≠ 1) (h2 : a0_0 ≠ 2) (h3 : a0_0 ≠ 3) (h4 : a0_0 ≠ 4) (h : some false = some r) :
    Calls Tryd.prog 33 #[.agg #[.int .i64 a0_0, .string a0_1, .int .i64 a0_2, .int .i64 a0_3, .string a0_4, .string a0_5, .string a0_6, .slice A0_7 l0_7.length c0_7]] w fun e w' => e = .returned (.bool r) ∧ Below w.heap.size w w' := by
  have hu26 := Tryd.underlying26
  have hu23 := Tryd.underlying23
  have HG := Aside0.mk hG
  have HC := Aside0.mk hc0_7
  have hbw : ∀ o1 o2, Below w.heap.size w ((w.alloc o1).alloc o2) := fun o1 o2 => below_alloc (below_alloc (Below.refl _ _) _) _
  have HBW := Aside0.mk hbw
  clear hG hr0_7 hc0_7 hbw
  have g0 : (a0_0 == (0 : Int)) = false := beq_eq_false_iff_ne.2 h0
  have g1 : (a0_0 == (1 : Int)) = false := beq_eq_false_iff_ne.2 h1
  have g2 : (a0_0 == (2 : Int)) = false := beq_eq_false_iff_ne.2 h2
  have g3 : (a0_0 == (3 : Int)) = false := beq_eq_false_iff_ne.2 h3
  have g4 : (a0_0 == (4 : Int)) = false := beq_eq_false_iff_ne.2 h4
  clear h0 h1 h2 h3 h4
  obtain rfl := Option.some.inj h
  go_enter Tryd.func33, Tryd.ntmps33
  go_wp2
  go_ret
  exact ⟨by first | rfl | (rw [beq_len]), HBW.out _ _⟩
def expr_Expr_head.f (k : Nat) (a0_0 : Int) (a0_1 : ByteArray) (a0_2 : Int) (a0_3 : Int) (a0_4 : ByteArray) (a0_5 : ByteArray) (a0_6 : ByteArray) (l0_7 : List (S26)) : Option Bool :=
  if a0_0 = 0 then (value_Right.f a0_2 a0_3 a0_4).bind (fun v => if v = true then (if a0_3 < 0 then some false else (strings_Contains.f a0_4 (⟨#[39]⟩ : ByteArray)).bind fun c => if c = true then some false else some (a0_1.toList == ([] : List UInt8) && (a0_5.toList == ([] : List UInt8) && (a0_6.toList == ([] : List UInt8) && ((l0_7.length : Int) == 0))))) else some false)
  else if a0_0 = 1 then (stream_IsName.f k a0_5).bind (fun n => if n = true then (stream_IsName.f k a0_6).bind (fun m => if m = true then some (a0_1.toList == ([] : List UInt8) && (a0_2 == (0 : Int) && (a0_3 == (0 : Int) && (a0_4.toList == ([] : List UInt8) && ((l0_7.length : Int) == 0))))) else some false) else some false)
  else if a0_0 = 2 then (stream_IsName.f k a0_5).bind (fun n => if n = true then some (a0_1.toList == ([] : List UInt8) && (a0_6.toList == ([] : List UInt8) && (a0_2 == (0 : Int) && (a0_3 == (0 : Int) && (a0_4.toList == ([] : List UInt8) && ((l0_7.length : Int) == 0)))))) else some false)
  else if a0_0 = 3 then (if (a0_1.toList == ([45] : List UInt8) || a0_1.toList == ([33] : List UInt8)) = true then some (a0_5.toList == ([] : List UInt8) && (a0_6.toList == ([] : List UInt8) && (a0_2 == (0 : Int) && (a0_3 == (0 : Int) && (a0_4.toList == ([] : List UInt8) && ((l0_7.length : Int) == 1)))))) else some false)
  else if a0_0 = 4 then (expr_Level.f k a0_1).bind (fun v => if (v == (0 : Int)) = true then some false else some (a0_5.toList == ([] : List UInt8) && (a0_6.toList == ([] : List UInt8) && (a0_2 == (0 : Int) && (a0_3 == (0 : Int) && (a0_4.toList == ([] : List UInt8) && ((l0_7.length : Int) == 2)))))))
  else some false
theorem expr_Expr_head.mono : ∀ a0 a1 a2 a3 a4 a5 a6 a7 k, LeO (expr_Expr_head.f k a0 a1 a2 a3 a4 a5 a6 a7) (expr_Expr_head.f (k + 1) a0 a1 a2 a3 a4 a5 a6 a7) := by
  intro a0 a1 a2 a3 a4 a5 a6 a7 k
  unfold expr_Expr_head.f
  repeat' first
  | exact stream_IsName.mono _ _
  | exact expr_Level.mono _ _
  | exact LeO.refl _
  | refine LeO.ite ?_ ?_
  | refine LeO.bind ?_ (fun _ => ?_)
theorem expr_Expr_head.calls (k : Nat) (a0_0 : Int) (a0_1 : ByteArray) (a0_2 : Int) (a0_3 : Int) (a0_4 : ByteArray) (a0_5 : ByteArray) (a0_6 : ByteArray) (A0_7 : Option Addr) (c0_7 : Nat) (l0_7 : List (S26)) (r : Bool) (w : World) (hr0_7 : Kd.C k26 w A0_7 l0_7.length l0_7) (hc0_7 : l0_7.length ≤ c0_7) (hG : Glob w) (h : expr_Expr_head.f k a0_0 a0_1 a0_2 a0_3 a0_4 a0_5 a0_6 l0_7 = some r) :
    Calls Tryd.prog 33 #[.agg #[.int .i64 a0_0, .string a0_1, .int .i64 a0_2, .int .i64 a0_3, .string a0_4, .string a0_5, .string a0_6, .slice A0_7 l0_7.length c0_7]] w fun e w' => e = .returned (.bool r) ∧ Below w.heap.size w w' := by
  unfold expr_Expr_head.f at h
  by_cases h0 : a0_0 = 0
  · rw [if_pos h0] at h
    subst h0
    exact expr_Expr_head.k0 k 0 a0_1 a0_2 a0_3 a0_4 a0_5 a0_6 A0_7 c0_7 l0_7 r w hr0_7 hc0_7 hG h
  rw [if_neg h0] at h
  by_cases h1 : a0_0 = 1
  · rw [if_pos h1] at h
    subst h1
    exact expr_Expr_head.k1 k 0 a0_1 a0_2 a0_3 a0_4 a0_5 a0_6 A0_7 c0_7 l0_7 r w hr0_7 hc0_7 hG h
  rw [if_neg h1] at h
  by_cases h2 : a0_0 = 2
  · rw [if_pos h2] at h
    subst h2
    exact expr_Expr_head.k2 k 0 a0_1 a0_2 a0_3 a0_4 a0_5 a0_6 A0_7 c0_7 l0_7 r w hr0_7 hc0_7 hG h
  rw [if_neg h2] at h
  by_cases h3 : a0_0 = 3
  · rw [if_pos h3] at h
    subst h3
    exact expr_Expr_head.k3 k 0 a0_1 a0_2 a0_3 a0_4 a0_5 a0_6 A0_7 c0_7 l0_7 r w hr0_7 hc0_7 hG h
  rw [if_neg h3] at h
  by_cases h4 : a0_0 = 4
  · rw [if_pos h4] at h
    subst h4
    exact expr_Expr_head.k4 k 0 a0_1 a0_2 a0_3 a0_4 a0_5 a0_6 A0_7 c0_7 l0_7 r w hr0_7 hc0_7 hG h
  rw [if_neg h4] at h
  exact expr_Expr_head.k9 k a0_0 a0_1 a0_2 a0_3 a0_4 a0_5 a0_6 A0_7 c0_7 l0_7 r w hr0_7 hc0_7 hG h0 h1 h2 h3 h4 h

end Go.Proofs.YtccaodehgaaheaaDoor.R
