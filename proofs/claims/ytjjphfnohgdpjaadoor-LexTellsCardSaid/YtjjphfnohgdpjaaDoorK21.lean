-- Written by this session's program mprint.py over the kit's printer (with hand-written contracts laid in). Not trusted: Lean checks it.
import Derived.Test.YtjjphfnohgdpjaaDoorK0
namespace Go.Proofs.YtjjphfnohgdpjaaDoor.K
open Go.RowKit Go.Proofs.YtjjphfnohgdpjaaDoorW.PrintWords Go.Proofs.YtjjphfnohgdpjaaDoorW.PrintLast Go.Proofs.YtjjphfnohgdpjaaDoorW.PrintMore
attribute [local go_sem] max2_int min2_int max_two min_two max_three min_three max_four min_four   -- for this text's walks alone
set_option linter.unusedVariables false
set_option linter.unusedSimpArgs false

/-! ### marshallingref06_Put: function 17 -/
def marshallingref06_Put.l0 : Nat → List (S50) → ByteArray → Int → Option (ByteArray)
  | 0, _, _, _ => none
  | k + 1, x0, x3, x4 => if x4 < (x0.length : Int) then (if x4 > 0 then (if x3.size + 1 ≤ 9223372036854775807 then (if 0 ≤ x4 then (if ((rd_T50 x0 x4).f0) = 3 then (if (x3 ++ (⟨#[32]⟩ : ByteArray)).size + 1 ≤ 9223372036854775807 then (if ((x3 ++ (⟨#[32]⟩ : ByteArray)) ++ (⟨#[39]⟩ : ByteArray)).size + ((rd_T50 x0 x4).f1).size ≤ 9223372036854775807 then (if (((x3 ++ (⟨#[32]⟩ : ByteArray)) ++ (⟨#[39]⟩ : ByteArray)) ++ ((rd_T50 x0 x4).f1)).size + 1 ≤ 9223372036854775807 then (marshallingref06_Put.l0 k x0 ((((x3 ++ (⟨#[32]⟩ : ByteArray)) ++ (⟨#[39]⟩ : ByteArray)) ++ ((rd_T50 x0 x4).f1)) ++ (⟨#[39]⟩ : ByteArray)) (wrap64 (x4 + 1))) else (none)) else (none)) else (none)) else (if (x3 ++ (⟨#[32]⟩ : ByteArray)).size + ((rd_T50 x0 x4).f1).size ≤ 9223372036854775807 then (marshallingref06_Put.l0 k x0 ((x3 ++ (⟨#[32]⟩ : ByteArray)) ++ ((rd_T50 x0 x4).f1)) (wrap64 (x4 + 1))) else (none))) else (none)) else (none)) else (if 0 ≤ x4 then (if ((rd_T50 x0 x4).f0) = 3 then (if x3.size + 1 ≤ 9223372036854775807 then (if (x3 ++ (⟨#[39]⟩ : ByteArray)).size + ((rd_T50 x0 x4).f1).size ≤ 9223372036854775807 then (if ((x3 ++ (⟨#[39]⟩ : ByteArray)) ++ ((rd_T50 x0 x4).f1)).size + 1 ≤ 9223372036854775807 then (marshallingref06_Put.l0 k x0 (((x3 ++ (⟨#[39]⟩ : ByteArray)) ++ ((rd_T50 x0 x4).f1)) ++ (⟨#[39]⟩ : ByteArray)) (wrap64 (x4 + 1))) else (none)) else (none)) else (none)) else (if x3.size + ((rd_T50 x0 x4).f1).size ≤ 9223372036854775807 then (marshallingref06_Put.l0 k x0 (x3 ++ ((rd_T50 x0 x4).f1)) (wrap64 (x4 + 1))) else (none))) else (none))) else (some x3)
def marshallingref06_Put.f (k : Nat) (l0 : List (S50)) : Option (ByteArray) := marshallingref06_Put.l0 k l0 (⟨#[]⟩ : ByteArray) 0
theorem marshallingref06_Put.mono_l : ∀ k, (∀ y0 y1 y2, LeO (marshallingref06_Put.l0 k y0 y1 y2) (marshallingref06_Put.l0 (k + 1) y0 y1 y2))
  | 0 => fun _ _ _ r h => by simp [marshallingref06_Put.l0] at h
  | k + 1 => by
    have ih0 := marshallingref06_Put.mono_l k
    · intro y0 y1 y2
      unfold marshallingref06_Put.l0
      repeat' first
      | (with_reducible exact ih0 _ _ _)
      | (with_reducible exact LeO.refl _)
      | (with_reducible exact LeO.none _)
      | (with_reducible refine LeO.ite ?_ ?_)
      | (with_reducible refine LeO.bind ?_ (fun _ => ?_))
      | exact ih0 _ _ _
      | exact LeO.none _
      | refine LeO.ite ?_ ?_
      | refine LeO.bind ?_ (fun _ => ?_)
theorem marshallingref06_Put.mono : ∀ a0 k, LeO (marshallingref06_Put.f k a0) (marshallingref06_Put.f (k + 1) a0) := by
  intro a0 k
  have ih0 := marshallingref06_Put.mono_l k
  unfold marshallingref06_Put.f
  repeat' first
      | (with_reducible exact ih0 _ _ _)
      | (with_reducible exact LeO.refl _)
      | (with_reducible exact LeO.none _)
      | (with_reducible refine LeO.ite ?_ ?_)
      | (with_reducible refine LeO.bind ?_ (fun _ => ?_))
      | exact ih0 _ _ _
      | exact LeO.none _
      | refine LeO.ite ?_ ?_
      | refine LeO.bind ?_ (fun _ => ?_)
set_option maxHeartbeats 8000000 in
set_option maxRecDepth 100000 in
theorem marshallingref06_Put.calls (k : Nat) (A0 : Option Addr) (c0 : Nat) (l0 : List (S50)) (r : ByteArray) (w : World) (hr0 : Kd.C k50 w A0 l0.length l0) (hc0 : l0.length ≤ c0) (h : marshallingref06_Put.f k l0 = some r) :
    Calls Tryd.prog 17 #[.slice A0 l0.length c0] w fun e w' => e = .returned (.string r) ∧ Drawn0 w w' := by
  have HR0 := Aside0.mk hr0
  have HC0 := Aside0.mk hc0
  clear hr0 hc0
  have H : (marshallingref06_Put.l0 k l0 (⟨#[]⟩ : ByteArray) 0) = some r := h
  clear h
  have H' := Aside0.mk H
  clear H
  go_enter Tryd.func17, Tryd.ntmps17
  go_wp2
  go_loopg [3, 4] k (fun kq v3 v4 w' => ∃ (x3_1 : ByteArray) (x4_1 : Int), v3 = .string x3_1 ∧ v4 = .int .i64 x4_1 ∧ Aside0 (marshallingref06_Put.l0 kq l0 x3_1 x4_1 = some r) ∧ Aside0 (kq ≤ k) ∧ Drawn0 w w')
  case atStart => exact ⟨((⟨#[]⟩ : ByteArray)), (0), (by first | rfl | (simp; done) | (simp [*]; done)), (by first | rfl | (simp; done) | (simp [*]; done)), H', ⟨Nat.le_refl _⟩, by repeat (first | exact Drawn0.refl _ | apply Drawn0.step)⟩
  case round =>
    clear H'
    try clear c1
    obtain ⟨x3_1, x4_1, rfl, rfl, HA, HK1, ⟨m1, rfl⟩⟩ := hrel
    cases gk with
    | zero => exact absurd HA.out (by simp [marshallingref06_Put.l0])
    | succ k1 =>
      have H := HA.out
      clear HA
      simp only [marshallingref06_Put.l0] at H
      by_cases c2 : x4_1 < (l0.length : Int)
      · rw [if_pos c2] at H
        have c2b0 : decide (x4_1 < (l0.length : Int)) = true := decide_eq_true c2
        clear c2
        by_cases c3 : x4_1 > 0
        · rw [if_pos c3] at H
          have c3b0 : decide (0 < x4_1) = true := decide_eq_true c3
          clear c3
          by_cases c4 : x3_1.size + 1 ≤ 9223372036854775807
          · rw [if_pos c4] at H
            have c4b0 := eq_true c4
            have c4b1 : decide (x3_1.size + 1 ≤ 9223372036854775807) = true := decide_eq_true c4
            try have c4b2 : (9223372036854775807 < x3_1.size + 1) = False := eq_false (Nat.not_lt.2 c4)
            by_cases c5 : 0 ≤ x4_1
            · rw [if_pos c5] at H
              have c5b0 : decide (0 ≤ x4_1) = true := decide_eq_true c5
              clear c5
              by_cases c6 : ((rd_T50 l0 x4_1).f0) = 3
              · rw [if_pos c6] at H
                have c6b0 : (((rd_T50 l0 x4_1).f0) == 3) = true := beq_iff_eq.mpr c6
                have c6b1 : (((rd_T50 l0 x4_1).f0) != 3) = false := bne_eq_false_iff_eq.mpr c6
                clear c6
                by_cases c7 : (x3_1 ++ (⟨#[32]⟩ : ByteArray)).size + 1 ≤ 9223372036854775807
                · rw [if_pos c7] at H
                  have c7b0 := eq_true c7
                  have c7b1 : decide ((x3_1 ++ (⟨#[32]⟩ : ByteArray)).size + 1 ≤ 9223372036854775807) = true := decide_eq_true c7
                  try have c7b2 : (9223372036854775807 < (x3_1 ++ (⟨#[32]⟩ : ByteArray)).size + 1) = False := eq_false (Nat.not_lt.2 c7)
                  try have c7b3 : (9223372036854775807 < x3_1.size + 1 + 1) = False := eq_false (Nat.not_lt.2 (by have h_ := c7; simp only [ByteArray.size_append] at h_; exact h_))
                  by_cases c8 : ((x3_1 ++ (⟨#[32]⟩ : ByteArray)) ++ (⟨#[39]⟩ : ByteArray)).size + ((rd_T50 l0 x4_1).f1).size ≤ 9223372036854775807
                  · rw [if_pos c8] at H
                    have c8b0 := eq_true c8
                    have c8b1 : decide (((x3_1 ++ (⟨#[32]⟩ : ByteArray)) ++ (⟨#[39]⟩ : ByteArray)).size + ((rd_T50 l0 x4_1).f1).size ≤ 9223372036854775807) = true := decide_eq_true c8
                    try have c8b2 : (9223372036854775807 < ((x3_1 ++ (⟨#[32]⟩ : ByteArray)) ++ (⟨#[39]⟩ : ByteArray)).size + ((rd_T50 l0 x4_1).f1).size) = False := eq_false (Nat.not_lt.2 c8)
                    try have c8b3 : (9223372036854775807 < x3_1.size + 1 + 1 + ((rd_T50 l0 x4_1).f1).size) = False := eq_false (Nat.not_lt.2 (by have h_ := c8; simp only [ByteArray.size_append] at h_; exact h_))
                    by_cases c9 : (((x3_1 ++ (⟨#[32]⟩ : ByteArray)) ++ (⟨#[39]⟩ : ByteArray)) ++ ((rd_T50 l0 x4_1).f1)).size + 1 ≤ 9223372036854775807
                    · rw [if_pos c9] at H
                      have c9b0 := eq_true c9
                      have c9b1 : decide ((((x3_1 ++ (⟨#[32]⟩ : ByteArray)) ++ (⟨#[39]⟩ : ByteArray)) ++ ((rd_T50 l0 x4_1).f1)).size + 1 ≤ 9223372036854775807) = true := decide_eq_true c9
                      try have c9b2 : (9223372036854775807 < (((x3_1 ++ (⟨#[32]⟩ : ByteArray)) ++ (⟨#[39]⟩ : ByteArray)) ++ ((rd_T50 l0 x4_1).f1)).size + 1) = False := eq_false (Nat.not_lt.2 c9)
                      try have c9b3 : (9223372036854775807 < x3_1.size + 1 + 1 + ((rd_T50 l0 x4_1).f1).size + 1) = False := eq_false (Nat.not_lt.2 (by have h_ := c9; simp only [ByteArray.size_append] at h_; exact h_))
                      have H' := Aside0.mk H
                      clear H
                      have p351 : 0 ≤ (x4_1 : Int) := of_decide_eq_true (by first | (with_reducible assumption) | assumption)
                      have q351 : x4_1 < (l0.length : Int) := of_decide_eq_true (by first | (with_reducible assumption) | assumption)
                      obtain ⟨ad351, e351, hx351_0, hx351_1, hx351_2, hx351_3⟩ := at_T50 HR0.out x4_1 p351 q351
                      cases e351
                      replace p351 := eq_true p351
                      replace q351 := eq_true q351
                      have p352 : 0 ≤ (x4_1 : Int) := of_decide_eq_true (by first | (with_reducible assumption) | assumption)
                      have q352 : x4_1 < (l0.length : Int) := of_decide_eq_true (by first | (with_reducible assumption) | assumption)
                      obtain ⟨ad352, e352, hx352_0, hx352_1, hx352_2, hx352_3⟩ := at_T50 HR0.out x4_1 p352 q352
                      obtain rfl : ad351 = ad352 := (by injection e352)
                      replace p352 := eq_true p352
                      replace q352 := eq_true q352
                      go_wp2
                      go_roundg k1
                      case measure => have := HK1.out; omega
                      case rel => exact ⟨((((x3_1 ++ (⟨#[32]⟩ : ByteArray)) ++ (⟨#[39]⟩ : ByteArray)) ++ ((rd_T50 l0 x4_1).f1)) ++ (⟨#[39]⟩ : ByteArray)), (wrap64 (x4_1 + 1)), (by first | rfl | (simp; done) | (simp [*]; done)), (by first | rfl | (simp; done) | (simp [*]; done)), H', ⟨by have := HK1.out; omega⟩, by repeat (first | exact Drawn0.refl _ | apply Drawn0.step)⟩
                    · rw [if_neg c9] at H
                      exact absurd H (by simp)
                  · rw [if_neg c8] at H
                    exact absurd H (by simp)
                · rw [if_neg c7] at H
                  exact absurd H (by simp)
              · rw [if_neg c6] at H
                have c6b0 : (((rd_T50 l0 x4_1).f0) == 3) = false := beq_eq_false_iff_ne.mpr c6
                have c6b1 : (((rd_T50 l0 x4_1).f0) != 3) = true := bne_iff_ne.mpr c6
                by_cases c10 : (x3_1 ++ (⟨#[32]⟩ : ByteArray)).size + ((rd_T50 l0 x4_1).f1).size ≤ 9223372036854775807
                · rw [if_pos c10] at H
                  have c10b0 := eq_true c10
                  have c10b1 : decide ((x3_1 ++ (⟨#[32]⟩ : ByteArray)).size + ((rd_T50 l0 x4_1).f1).size ≤ 9223372036854775807) = true := decide_eq_true c10
                  try have c10b2 : (9223372036854775807 < (x3_1 ++ (⟨#[32]⟩ : ByteArray)).size + ((rd_T50 l0 x4_1).f1).size) = False := eq_false (Nat.not_lt.2 c10)
                  try have c10b3 : (9223372036854775807 < x3_1.size + 1 + ((rd_T50 l0 x4_1).f1).size) = False := eq_false (Nat.not_lt.2 (by have h_ := c10; simp only [ByteArray.size_append] at h_; exact h_))
                  have H' := Aside0.mk H
                  clear H
                  have p351 : 0 ≤ (x4_1 : Int) := of_decide_eq_true (by first | (with_reducible assumption) | assumption)
                  have q351 : x4_1 < (l0.length : Int) := of_decide_eq_true (by first | (with_reducible assumption) | assumption)
                  obtain ⟨ad351, e351, hx351_0, hx351_1, hx351_2, hx351_3⟩ := at_T50 HR0.out x4_1 p351 q351
                  cases e351
                  replace p351 := eq_true p351
                  replace q351 := eq_true q351
                  have p353 : 0 ≤ (x4_1 : Int) := of_decide_eq_true (by first | (with_reducible assumption) | assumption)
                  have q353 : x4_1 < (l0.length : Int) := of_decide_eq_true (by first | (with_reducible assumption) | assumption)
                  obtain ⟨ad353, e353, hx353_0, hx353_1, hx353_2, hx353_3⟩ := at_T50 HR0.out x4_1 p353 q353
                  obtain rfl : ad351 = ad353 := (by injection e353)
                  replace p353 := eq_true p353
                  replace q353 := eq_true q353
                  go_wp2
                  go_roundg k1
                  case measure => have := HK1.out; omega
                  case rel => exact ⟨((x3_1 ++ (⟨#[32]⟩ : ByteArray)) ++ ((rd_T50 l0 x4_1).f1)), (wrap64 (x4_1 + 1)), (by first | rfl | (simp; done) | (simp [*]; done)), (by first | rfl | (simp; done) | (simp [*]; done)), H', ⟨by have := HK1.out; omega⟩, by repeat (first | exact Drawn0.refl _ | apply Drawn0.step)⟩
                · rw [if_neg c10] at H
                  exact absurd H (by simp)
            · rw [if_neg c5] at H
              exact absurd H (by simp)
          · rw [if_neg c4] at H
            exact absurd H (by simp)
        · rw [if_neg c3] at H
          have c3b0 : decide (0 < x4_1) = false := decide_eq_false c3
          clear c3
          by_cases c11 : 0 ≤ x4_1
          · rw [if_pos c11] at H
            have c11b0 : decide (0 ≤ x4_1) = true := decide_eq_true c11
            clear c11
            by_cases c12 : ((rd_T50 l0 x4_1).f0) = 3
            · rw [if_pos c12] at H
              have c12b0 : (((rd_T50 l0 x4_1).f0) == 3) = true := beq_iff_eq.mpr c12
              have c12b1 : (((rd_T50 l0 x4_1).f0) != 3) = false := bne_eq_false_iff_eq.mpr c12
              clear c12
              by_cases c13 : x3_1.size + 1 ≤ 9223372036854775807
              · rw [if_pos c13] at H
                have c13b0 := eq_true c13
                have c13b1 : decide (x3_1.size + 1 ≤ 9223372036854775807) = true := decide_eq_true c13
                try have c13b2 : (9223372036854775807 < x3_1.size + 1) = False := eq_false (Nat.not_lt.2 c13)
                by_cases c14 : (x3_1 ++ (⟨#[39]⟩ : ByteArray)).size + ((rd_T50 l0 x4_1).f1).size ≤ 9223372036854775807
                · rw [if_pos c14] at H
                  have c14b0 := eq_true c14
                  have c14b1 : decide ((x3_1 ++ (⟨#[39]⟩ : ByteArray)).size + ((rd_T50 l0 x4_1).f1).size ≤ 9223372036854775807) = true := decide_eq_true c14
                  try have c14b2 : (9223372036854775807 < (x3_1 ++ (⟨#[39]⟩ : ByteArray)).size + ((rd_T50 l0 x4_1).f1).size) = False := eq_false (Nat.not_lt.2 c14)
                  try have c14b3 : (9223372036854775807 < x3_1.size + 1 + ((rd_T50 l0 x4_1).f1).size) = False := eq_false (Nat.not_lt.2 (by have h_ := c14; simp only [ByteArray.size_append] at h_; exact h_))
                  by_cases c15 : ((x3_1 ++ (⟨#[39]⟩ : ByteArray)) ++ ((rd_T50 l0 x4_1).f1)).size + 1 ≤ 9223372036854775807
                  · rw [if_pos c15] at H
                    have c15b0 := eq_true c15
                    have c15b1 : decide (((x3_1 ++ (⟨#[39]⟩ : ByteArray)) ++ ((rd_T50 l0 x4_1).f1)).size + 1 ≤ 9223372036854775807) = true := decide_eq_true c15
                    try have c15b2 : (9223372036854775807 < ((x3_1 ++ (⟨#[39]⟩ : ByteArray)) ++ ((rd_T50 l0 x4_1).f1)).size + 1) = False := eq_false (Nat.not_lt.2 c15)
                    try have c15b3 : (9223372036854775807 < x3_1.size + 1 + ((rd_T50 l0 x4_1).f1).size + 1) = False := eq_false (Nat.not_lt.2 (by have h_ := c15; simp only [ByteArray.size_append] at h_; exact h_))
                    have H' := Aside0.mk H
                    clear H
                    have p354 : 0 ≤ (x4_1 : Int) := of_decide_eq_true (by first | (with_reducible assumption) | assumption)
                    have q354 : x4_1 < (l0.length : Int) := of_decide_eq_true (by first | (with_reducible assumption) | assumption)
                    obtain ⟨ad354, e354, hx354_0, hx354_1, hx354_2, hx354_3⟩ := at_T50 HR0.out x4_1 p354 q354
                    cases e354
                    replace p354 := eq_true p354
                    replace q354 := eq_true q354
                    have p355 : 0 ≤ (x4_1 : Int) := of_decide_eq_true (by first | (with_reducible assumption) | assumption)
                    have q355 : x4_1 < (l0.length : Int) := of_decide_eq_true (by first | (with_reducible assumption) | assumption)
                    obtain ⟨ad355, e355, hx355_0, hx355_1, hx355_2, hx355_3⟩ := at_T50 HR0.out x4_1 p355 q355
                    obtain rfl : ad354 = ad355 := (by injection e355)
                    replace p355 := eq_true p355
                    replace q355 := eq_true q355
                    go_wp2
                    go_roundg k1
                    case measure => have := HK1.out; omega
                    case rel => exact ⟨(((x3_1 ++ (⟨#[39]⟩ : ByteArray)) ++ ((rd_T50 l0 x4_1).f1)) ++ (⟨#[39]⟩ : ByteArray)), (wrap64 (x4_1 + 1)), (by first | rfl | (simp; done) | (simp [*]; done)), (by first | rfl | (simp; done) | (simp [*]; done)), H', ⟨by have := HK1.out; omega⟩, by repeat (first | exact Drawn0.refl _ | apply Drawn0.step)⟩
                  · rw [if_neg c15] at H
                    exact absurd H (by simp)
                · rw [if_neg c14] at H
                  exact absurd H (by simp)
              · rw [if_neg c13] at H
                exact absurd H (by simp)
            · rw [if_neg c12] at H
              have c12b0 : (((rd_T50 l0 x4_1).f0) == 3) = false := beq_eq_false_iff_ne.mpr c12
              have c12b1 : (((rd_T50 l0 x4_1).f0) != 3) = true := bne_iff_ne.mpr c12
              by_cases c16 : x3_1.size + ((rd_T50 l0 x4_1).f1).size ≤ 9223372036854775807
              · rw [if_pos c16] at H
                have c16b0 := eq_true c16
                have c16b1 : decide (x3_1.size + ((rd_T50 l0 x4_1).f1).size ≤ 9223372036854775807) = true := decide_eq_true c16
                try have c16b2 : (9223372036854775807 < x3_1.size + ((rd_T50 l0 x4_1).f1).size) = False := eq_false (Nat.not_lt.2 c16)
                have H' := Aside0.mk H
                clear H
                have p354 : 0 ≤ (x4_1 : Int) := of_decide_eq_true (by first | (with_reducible assumption) | assumption)
                have q354 : x4_1 < (l0.length : Int) := of_decide_eq_true (by first | (with_reducible assumption) | assumption)
                obtain ⟨ad354, e354, hx354_0, hx354_1, hx354_2, hx354_3⟩ := at_T50 HR0.out x4_1 p354 q354
                cases e354
                replace p354 := eq_true p354
                replace q354 := eq_true q354
                have p356 : 0 ≤ (x4_1 : Int) := of_decide_eq_true (by first | (with_reducible assumption) | assumption)
                have q356 : x4_1 < (l0.length : Int) := of_decide_eq_true (by first | (with_reducible assumption) | assumption)
                obtain ⟨ad356, e356, hx356_0, hx356_1, hx356_2, hx356_3⟩ := at_T50 HR0.out x4_1 p356 q356
                obtain rfl : ad354 = ad356 := (by injection e356)
                replace p356 := eq_true p356
                replace q356 := eq_true q356
                go_wp2
                go_roundg k1
                case measure => have := HK1.out; omega
                case rel => exact ⟨(x3_1 ++ ((rd_T50 l0 x4_1).f1)), (wrap64 (x4_1 + 1)), (by first | rfl | (simp; done) | (simp [*]; done)), (by first | rfl | (simp; done) | (simp [*]; done)), H', ⟨by have := HK1.out; omega⟩, by repeat (first | exact Drawn0.refl _ | apply Drawn0.step)⟩
              · rw [if_neg c16] at H
                exact absurd H (by simp)
          · rw [if_neg c11] at H
            exact absurd H (by simp)
      · rw [if_neg c2] at H
        have c2b0 : decide (x4_1 < (l0.length : Int)) = false := decide_eq_false c2
        clear c2
        obtain rfl := Option.some.inj H
        go_wp2
        go_ret
        exact ⟨by first | rfl | (simp; done) | (simp [*]; done), by repeat (first | exact Drawn0.refl _ | apply Drawn0.step)⟩

end Go.Proofs.YtjjphfnohgdpjaaDoor.K
