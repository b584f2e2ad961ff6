-- Written by this session's program mprint.py over the kit's printer (with hand-written contracts laid in). Not trusted: Lean checks it.
import Derived.Test.YtccaodehgaaheaaDoorR0
import Derived.Test.YtccaodehgaaheaaDoorR2
import Derived.Test.YtccaodehgaaheaaDoorR7
import Derived.Test.YtccaodehgaaheaaDoorR8
namespace Go.Proofs.YtccaodehgaaheaaDoor.R
open Go.RowKit Go.Proofs.YtccaodehgaaheaaDoorW.PrintWords Go.Proofs.YtccaodehgaaheaaDoorW.PrintLast Go.Proofs.YtccaodehgaaheaaDoorW.PrintMore
attribute [local go_sem] max2_int min2_int max_two min_two max_three min_three max_four min_four   -- for this text's walks alone
set_option linter.unusedVariables false
set_option linter.unusedSimpArgs false

/-! ### expr_Put: function 13 -/
mutual
def expr_Put.j0 (P36_ : Int → ByteArray → Int → Int → ByteArray → ByteArray → ByteArray → List (S26) → Int → Option (ByteArray)) : Nat → Bool → Int → ByteArray → Int → Int → ByteArray → ByteArray → ByteArray → List (S26) → Option (ByteArray)
  | 0, _, _, _, _, _, _, _, _, _ => none
  | k + 1, x21, x113000, x113001, x113002, x113003, x113004, x113005, x113006, x113007 => if x21 = true then (if 0 < (x113007.length : Int) then ((P36_ ((rd_T26 x113007 0).f0) ((rd_T26 x113007 0).f1) ((rd_T26 x113007 0).f2.f0) ((rd_T26 x113007 0).f2.f1) ((rd_T26 x113007 0).f2.f2) ((rd_T26 x113007 0).f3) ((rd_T26 x113007 0).f4) ((rd_T26 x113007 0).f5) 7).bind fun t114 => (if x113001.size + t114.size ≤ 9223372036854775807 then (some (x113001 ++ t114)) else (none))) else (none)) else (if x113000 = 4 then (expr_Put.j1 P36_ k ((x113007.length : Int) == 2) x113000 x113001 x113002 x113003 x113004 x113005 x113006 x113007) else (expr_Put.j1 P36_ k false x113000 x113001 x113002 x113003 x113004 x113005 x113006 x113007))
def expr_Put.j1 (P36_ : Int → ByteArray → Int → Int → ByteArray → ByteArray → ByteArray → List (S26) → Int → Option (ByteArray)) : Nat → Bool → Int → ByteArray → Int → Int → ByteArray → ByteArray → ByteArray → List (S26) → Option (ByteArray)
  | 0, _, _, _, _, _, _, _, _, _ => none
  | k + 1, x39, x113000, x113001, x113002, x113003, x113004, x113005, x113006, x113007 => if x39 = true then ((expr_Level.f k x113001).bind fun t115 => (if 0 < (x113007.length : Int) then ((P36_ ((rd_T26 x113007 0).f0) ((rd_T26 x113007 0).f1) ((rd_T26 x113007 0).f2.f0) ((rd_T26 x113007 0).f2.f1) ((rd_T26 x113007 0).f2.f2) ((rd_T26 x113007 0).f3) ((rd_T26 x113007 0).f4) ((rd_T26 x113007 0).f5) t115).bind fun t117 => (if t117.size + 1 ≤ 9223372036854775807 then (if (t117 ++ (⟨#[32]⟩ : ByteArray)).size + x113001.size ≤ 9223372036854775807 then (if ((t117 ++ (⟨#[32]⟩ : ByteArray)) ++ x113001).size + 1 ≤ 9223372036854775807 then (if 1 < (x113007.length : Int) then ((P36_ ((rd_T26 x113007 1).f0) ((rd_T26 x113007 1).f1) ((rd_T26 x113007 1).f2.f0) ((rd_T26 x113007 1).f2.f1) ((rd_T26 x113007 1).f2.f2) ((rd_T26 x113007 1).f3) ((rd_T26 x113007 1).f4) ((rd_T26 x113007 1).f5) (wrap64 (t115 + 1))).bind fun t119 => (if (((t117 ++ (⟨#[32]⟩ : ByteArray)) ++ x113001) ++ (⟨#[32]⟩ : ByteArray)).size + t119.size ≤ 9223372036854775807 then (some ((((t117 ++ (⟨#[32]⟩ : ByteArray)) ++ x113001) ++ (⟨#[32]⟩ : ByteArray)) ++ t119)) else (none))) else (none)) else (none)) else (none)) else (none))) else (none))) else ((value_Show.f x113002 x113003 x113004).bind fun t120 => (some t120))
end
def expr_Put.s (P36_ : Int → ByteArray → Int → Int → ByteArray → ByteArray → ByteArray → List (S26) → Int → Option (ByteArray)) (k : Nat) (a0_0 : Int) (a0_1 : ByteArray) (a0_2 : Int) (a0_3 : Int) (a0_4 : ByteArray) (a0_5 : ByteArray) (a0_6 : ByteArray) (l0_7 : List (S26)) : Option (ByteArray) := if a0_0 = 1 then (if a0_5.size + 1 ≤ 9223372036854775807 then (if (a0_5 ++ (⟨#[46]⟩ : ByteArray)).size + a0_6.size ≤ 9223372036854775807 then (some ((a0_5 ++ (⟨#[46]⟩ : ByteArray)) ++ a0_6)) else (none)) else (none)) else (if a0_0 = 2 then (if 1 + a0_5.size ≤ 9223372036854775807 then (some ((⟨#[35]⟩ : ByteArray) ++ a0_5)) else (none)) else (if a0_0 = 3 then (expr_Put.j0 P36_ k ((l0_7.length : Int) == 1) a0_0 a0_1 a0_2 a0_3 a0_4 a0_5 a0_6 l0_7) else (expr_Put.j0 P36_ k false a0_0 a0_1 a0_2 a0_3 a0_4 a0_5 a0_6 l0_7)))
theorem expr_Put.mono_l (P36_ : Int → ByteArray → Int → Int → ByteArray → ByteArray → ByteArray → List (S26) → Int → Option (ByteArray)) (Q36_ : Int → ByteArray → Int → Int → ByteArray → ByteArray → ByteArray → List (S26) → Int → Option (ByteArray)) (h36_ : ∀ b0_ b1_ b2_ b3_ b4_ b5_ b6_ b7_ b8_, LeO (P36_ b0_ b1_ b2_ b3_ b4_ b5_ b6_ b7_ b8_) (Q36_ b0_ b1_ b2_ b3_ b4_ b5_ b6_ b7_ b8_)) : ∀ k, (∀ y0 y1 y2 y3 y4 y5 y6 y7 y8, LeO (expr_Put.j0 P36_ k y0 y1 y2 y3 y4 y5 y6 y7 y8) (expr_Put.j0 Q36_ (k + 1) y0 y1 y2 y3 y4 y5 y6 y7 y8)) ∧ (∀ y0 y1 y2 y3 y4 y5 y6 y7 y8, LeO (expr_Put.j1 P36_ k y0 y1 y2 y3 y4 y5 y6 y7 y8) (expr_Put.j1 Q36_ (k + 1) y0 y1 y2 y3 y4 y5 y6 y7 y8))
  | 0 => ⟨fun _ _ _ _ _ _ _ _ _ r h => by simp [expr_Put.j0] at h, fun _ _ _ _ _ _ _ _ _ r h => by simp [expr_Put.j1] at h⟩
  | k + 1 => by
    obtain ⟨ih0, ih1⟩ := expr_Put.mono_l P36_ Q36_ h36_ k
    refine ⟨?_, ?_⟩
    · intro y0 y1 y2 y3 y4 y5 y6 y7 y8
      unfold expr_Put.j0
      repeat' first
      | exact h36_ _ _ _ _ _ _ _ _ _
      | (with_reducible exact ih0 _ _ _ _ _ _ _ _ _)
      | (with_reducible exact ih1 _ _ _ _ _ _ _ _ _)
      | (with_reducible exact expr_Level.mono _ _)
      | (with_reducible exact LeO.refl _)
      | (with_reducible exact LeO.none _)
      | (with_reducible refine LeO.ite ?_ ?_)
      | (with_reducible refine LeO.bind ?_ (fun _ => ?_))
      | exact ih0 _ _ _ _ _ _ _ _ _
      | exact ih1 _ _ _ _ _ _ _ _ _
      | exact expr_Level.mono _ _
      | exact LeO.none _
      | refine LeO.ite ?_ ?_
      | refine LeO.bind ?_ (fun _ => ?_)
    · intro y0 y1 y2 y3 y4 y5 y6 y7 y8
      unfold expr_Put.j1
      repeat' first
      | exact h36_ _ _ _ _ _ _ _ _ _
      | (with_reducible exact ih0 _ _ _ _ _ _ _ _ _)
      | (with_reducible exact ih1 _ _ _ _ _ _ _ _ _)
      | (with_reducible exact expr_Level.mono _ _)
      | (with_reducible exact LeO.refl _)
      | (with_reducible exact LeO.none _)
      | (with_reducible refine LeO.ite ?_ ?_)
      | (with_reducible refine LeO.bind ?_ (fun _ => ?_))
      | exact ih0 _ _ _ _ _ _ _ _ _
      | exact ih1 _ _ _ _ _ _ _ _ _
      | exact expr_Level.mono _ _
      | exact LeO.none _
      | refine LeO.ite ?_ ?_
      | refine LeO.bind ?_ (fun _ => ?_)
def expr_Put.T6 : Bool × List (List Nat × List Nat) := (true, [([], []), ([0], [0]), ([], []), ([2], [2]), ([3], [3]), ([4], [4]), ([5], [5]), ([1, 6], [1, 6]), ([7, 6, 0, 1, 2, 3, 4, 5, 6, 7], [7])])
def expr_Put.B6 : List Nat := [0, 1, 0, 4, 12, 28, 60, 127, 255]
theorem expr_Put.tab6 : rtab .any (opsOf Tryd.f13 6) = expr_Put.T6 := by kernel_rfl
theorem expr_Put.bits6 : waitsOk expr_Put.T6.2 expr_Put.B6 = true := by kernel_rfl
def expr_Put.T9 : Bool × List (List Nat × List Nat) := (true, [([], []), ([0], [0]), ([1], [1]), ([2], [2]), ([], []), ([3, 4], [3, 4]), ([5], [5]), ([], []), ([7], [7]), ([6, 8], [6, 8]), ([9], [9]), ([], []), ([11], [11]), ([12], [12]), ([13], [13]), ([], []), ([15], [15]), ([14, 16, 5], [14, 16]), ([10, 17], [10, 17]), ([18, 17, 0, 1, 2, 3, 4, 5, 6, 7, 8, 9, 10, 11, 12, 13, 14, 15, 16, 17, 18], [18])])
def expr_Put.B9 : List Nat := [0, 1, 3, 7, 0, 31, 63, 0, 128, 511, 1023, 0, 2048, 6144, 14336, 0, 32768, 129087, 262143, 524287]
theorem expr_Put.tab9 : rtab .any (opsOf Tryd.f13 9) = expr_Put.T9 := by kernel_rfl
theorem expr_Put.bits9 : waitsOk expr_Put.T9.2 expr_Put.B9 = true := by kernel_rfl
set_option maxHeartbeats 8000000 in
set_option maxRecDepth 100000 in
theorem expr_Put.scalls (P36_ : Int → ByteArray → Int → Int → ByteArray → ByteArray → ByteArray → List (S26) → Int → Option (ByteArray)) (hP36_ : ∀ (a0_0 : Int) (a0_1 : ByteArray) (a0_2 : Int) (a0_3 : Int) (a0_4 : ByteArray) (a0_5 : ByteArray) (a0_6 : ByteArray) (A0_7 : Option Addr) (c0_7 : Nat) (l0_7 : List (S26)) (a1 : Int) (r : ByteArray) (w : World) (hr0_7 : Kd.C k26 w A0_7 l0_7.length l0_7) (hc0_7 : l0_7.length ≤ c0_7) (hG : Glob w) (h : P36_ a0_0 a0_1 a0_2 a0_3 a0_4 a0_5 a0_6 l0_7 a1 = some r), Calls Tryd.prog 36 #[.agg #[.int .i64 a0_0, .string a0_1, .int .i64 a0_2, .int .i64 a0_3, .string a0_4, .string a0_5, .string a0_6, .slice A0_7 l0_7.length c0_7], .int .i64 a1] w fun e w' => e = .returned (.string r) ∧ Below w.heap.size w w') (k : Nat) (a0_0 : Int) (a0_1 : ByteArray) (a0_2 : Int) (a0_3 : Int) (a0_4 : ByteArray) (a0_5 : ByteArray) (a0_6 : ByteArray) (A0_7 : Option Addr) (c0_7 : Nat) (l0_7 : List (S26)) (r : ByteArray) (w : World) (hr0_7 : Kd.C k26 w A0_7 l0_7.length l0_7) (hc0_7 : l0_7.length ≤ c0_7) (hG : Glob w) (h : expr_Put.s P36_ k a0_0 a0_1 a0_2 a0_3 a0_4 a0_5 a0_6 l0_7 = some r) :
    Calls Tryd.prog 13 #[.agg #[.int .i64 a0_0, .string a0_1, .int .i64 a0_2, .int .i64 a0_3, .string a0_4, .string a0_5, .string a0_6, .slice A0_7 l0_7.length c0_7]] w fun e w' => e = .returned (.string r) ∧ Below w.heap.size w w' := by
  have hu26 := Tryd.underlying26
  have hu23 := Tryd.underlying23
  have HG := Aside0.mk hG
  clear hG
  have HR0_7 := Aside0.mk hr0_7
  have HC0_7 := Aside0.mk hc0_7
  clear hr0_7 hc0_7
  have HB := Aside0.mk (Below.refl w.heap.size w)
  have H : (if a0_0 = 1 then (if a0_5.size + 1 ≤ 9223372036854775807 then (if (a0_5 ++ (⟨#[46]⟩ : ByteArray)).size + a0_6.size ≤ 9223372036854775807 then (some ((a0_5 ++ (⟨#[46]⟩ : ByteArray)) ++ a0_6)) else (none)) else (none)) else (if a0_0 = 2 then (if 1 + a0_5.size ≤ 9223372036854775807 then (some ((⟨#[35]⟩ : ByteArray) ++ a0_5)) else (none)) else (if a0_0 = 3 then (expr_Put.j0 P36_ k ((l0_7.length : Int) == 1) a0_0 a0_1 a0_2 a0_3 a0_4 a0_5 a0_6 l0_7) else (expr_Put.j0 P36_ k false a0_0 a0_1 a0_2 a0_3 a0_4 a0_5 a0_6 l0_7)))) = some r := h
  clear h
  by_cases c2 : a0_0 = 1
  · rw [if_pos c2] at H
    have c2b0 : (a0_0 == 1) = true := beq_iff_eq.mpr c2
    have c2b1 : (a0_0 != 1) = false := bne_eq_false_iff_eq.mpr c2
    clear c2
    by_cases c3 : a0_5.size + 1 ≤ 9223372036854775807
    · rw [if_pos c3] at H
      have c3b0 := eq_true c3
      have c3b1 : decide (a0_5.size + 1 ≤ 9223372036854775807) = true := decide_eq_true c3
      try have c3b2 : (9223372036854775807 < a0_5.size + 1) = False := eq_false (Nat.not_lt.2 c3)
      by_cases c4 : (a0_5 ++ (⟨#[46]⟩ : ByteArray)).size + a0_6.size ≤ 9223372036854775807
      · rw [if_pos c4] at H
        have c4b0 := eq_true c4
        have c4b1 : decide ((a0_5 ++ (⟨#[46]⟩ : ByteArray)).size + a0_6.size ≤ 9223372036854775807) = true := decide_eq_true c4
        try have c4b2 : (9223372036854775807 < (a0_5 ++ (⟨#[46]⟩ : ByteArray)).size + a0_6.size) = False := eq_false (Nat.not_lt.2 c4)
        try have c4b3 : (9223372036854775807 < a0_5.size + 1 + a0_6.size) = False := eq_false (Nat.not_lt.2 (by have h_ := c4; simp only [ByteArray.size_append] at h_; exact h_))
        obtain rfl := Option.some.inj H
        go_enter Tryd.func13, Tryd.ntmps13
        go_wp2_with (first | ((with_reducible refine gate_dst (N := 1) rfl ?_); (try (refine gate_guard (by rfl) ?_; dsimp only)); refine box_event ?hg (N := 1) ?hd (cs := #[.int .i64 a0_0, .string a0_1, .int .i64 a0_2, .int .i64 a0_3, .string a0_4, .string a0_5, .string a0_6, .slice A0_7 l0_7.length c0_7]) (t := 26) ?hr ?_; (case hd => rfl); (case hg => rfl); (case hr => first | (go_simp; done) | (go_simp; rfl)); intro gb112 hg w5 hbox hb; have n0_ := Aside0.mk (below_step (by repeat (first | (with_reducible first | exact HB.out | apply below_alloc | apply pw_below_drewN | apply below_drew1) | exact HB.out)) hb); have n1_ := Aside0.mk (hbox); have n2_ := Aside0.mk ((by rw [hg]; exact (below_size (by repeat (first | (with_reducible first | exact HB.out | apply below_alloc | apply pw_below_drewN | apply below_drew1) | exact HB.out))) : w.heap.size ≤ gb112)); have n3_ := Aside0.mk ((by rw [hg]; exact (below_size (by repeat (first | (with_reducible first | exact HB.out | apply below_alloc | apply pw_below_drewN | apply below_drew1) | exact HB.out))) : w.heap.size ≤ gb112)); clear HB; have HB := n0_; have BK112 := n1_; have GW112 := n2_; have GE112 := n3_; clear n0_ n1_ n2_ n3_; clear hb hbox hg; have hcz6_0 : w5.cell? ⟨gb112, 0, none⟩ = some (.int .i64 a0_0) := (blk_cell BK112.out 0).trans rfl; have hcz6_1 : w5.cell? ⟨gb112, 1, none⟩ = some (.string a0_1) := (blk_cell BK112.out 1).trans rfl; have hcz6_2 : w5.cell? ⟨gb112, 2, none⟩ = some (.int .i64 a0_2) := (blk_cell BK112.out 2).trans rfl; have hcz6_3 : w5.cell? ⟨gb112, 3, none⟩ = some (.int .i64 a0_3) := (blk_cell BK112.out 3).trans rfl; have hcz6_4 : w5.cell? ⟨gb112, 4, none⟩ = some (.string a0_4) := (blk_cell BK112.out 4).trans rfl; have hcz6_5 : w5.cell? ⟨gb112, 5, none⟩ = some (.string a0_5) := (blk_cell BK112.out 5).trans rfl; have hcz6_6 : w5.cell? ⟨gb112, 6, none⟩ = some (.string a0_6) := (blk_cell BK112.out 6).trans rfl; have hcz6_7 : w5.cell? ⟨gb112, 7, none⟩ = some (.slice A0_7 l0_7.length c0_7) := (blk_cell BK112.out 7).trans rfl; have hfz6_0 := blk_frozen BK112.out 0; have hfz6_1 := blk_frozen BK112.out 1; have hfz6_2 := blk_frozen BK112.out 2; have hfz6_3 := blk_frozen BK112.out 3; have hfz6_4 := blk_frozen BK112.out 4; have hfz6_5 := blk_frozen BK112.out 5; have hfz6_6 := blk_frozen BK112.out 6; have hfz6_7 := blk_frozen BK112.out 7))
        go_ret
        exact ⟨by first | rfl | (simp [errW_none, errW_some] <;> rfl) | (simp [*, errW_none, errW_some] <;> rfl), by repeat (first | (with_reducible first | exact HB.out | apply below_alloc | apply pw_below_drewN | apply below_drew1 | refine below_set ?_ GE112.out) | exact HB.out)⟩
      · rw [if_neg c4] at H
        exact absurd H (by simp)
    · rw [if_neg c3] at H
      exact absurd H (by simp)
  · rw [if_neg c2] at H
    have c2b0 : (a0_0 == 1) = false := beq_eq_false_iff_ne.mpr c2
    have c2b1 : (a0_0 != 1) = true := bne_iff_ne.mpr c2
    by_cases c7 : a0_0 = 2
    · rw [if_pos c7] at H
      have c7b0 : (a0_0 == 2) = true := beq_iff_eq.mpr c7
      have c7b1 : (a0_0 != 2) = false := bne_eq_false_iff_eq.mpr c7
      clear c7
      by_cases c8 : 1 + a0_5.size ≤ 9223372036854775807
      · rw [if_pos c8] at H
        have c8b0 := eq_true c8
        have c8b1 : decide (1 + a0_5.size ≤ 9223372036854775807) = true := decide_eq_true c8
        try have c8b2 : (9223372036854775807 < 1 + a0_5.size) = False := eq_false (Nat.not_lt.2 c8)
        obtain rfl := Option.some.inj H
        go_enter Tryd.func13, Tryd.ntmps13
        go_wp2_with (first | ((with_reducible refine gate_dst (N := 1) rfl ?_); (try (refine gate_guard (by rfl) ?_; dsimp only)); refine box_event ?hg (N := 1) ?hd (cs := #[.int .i64 a0_0, .string a0_1, .int .i64 a0_2, .int .i64 a0_3, .string a0_4, .string a0_5, .string a0_6, .slice A0_7 l0_7.length c0_7]) (t := 26) ?hr ?_; (case hd => rfl); (case hg => rfl); (case hr => first | (go_simp; done) | (go_simp; rfl)); intro gb112 hg w9 hbox hb; have n0_ := Aside0.mk (below_step (by repeat (first | (with_reducible first | exact HB.out | apply below_alloc | apply pw_below_drewN | apply below_drew1) | exact HB.out)) hb); have n1_ := Aside0.mk (hbox); have n2_ := Aside0.mk ((by rw [hg]; exact (below_size (by repeat (first | (with_reducible first | exact HB.out | apply below_alloc | apply pw_below_drewN | apply below_drew1) | exact HB.out))) : w.heap.size ≤ gb112)); have n3_ := Aside0.mk ((by rw [hg]; exact (below_size (by repeat (first | (with_reducible first | exact HB.out | apply below_alloc | apply pw_below_drewN | apply below_drew1) | exact HB.out))) : w.heap.size ≤ gb112)); clear HB; have HB := n0_; have BK112 := n1_; have GW112 := n2_; have GE112 := n3_; clear n0_ n1_ n2_ n3_; clear hb hbox hg; have hcz10_0 : w9.cell? ⟨gb112, 0, none⟩ = some (.int .i64 a0_0) := (blk_cell BK112.out 0).trans rfl; have hcz10_1 : w9.cell? ⟨gb112, 1, none⟩ = some (.string a0_1) := (blk_cell BK112.out 1).trans rfl; have hcz10_2 : w9.cell? ⟨gb112, 2, none⟩ = some (.int .i64 a0_2) := (blk_cell BK112.out 2).trans rfl; have hcz10_3 : w9.cell? ⟨gb112, 3, none⟩ = some (.int .i64 a0_3) := (blk_cell BK112.out 3).trans rfl; have hcz10_4 : w9.cell? ⟨gb112, 4, none⟩ = some (.string a0_4) := (blk_cell BK112.out 4).trans rfl; have hcz10_5 : w9.cell? ⟨gb112, 5, none⟩ = some (.string a0_5) := (blk_cell BK112.out 5).trans rfl; have hcz10_6 : w9.cell? ⟨gb112, 6, none⟩ = some (.string a0_6) := (blk_cell BK112.out 6).trans rfl; have hcz10_7 : w9.cell? ⟨gb112, 7, none⟩ = some (.slice A0_7 l0_7.length c0_7) := (blk_cell BK112.out 7).trans rfl; have hfz10_0 := blk_frozen BK112.out 0; have hfz10_1 := blk_frozen BK112.out 1; have hfz10_2 := blk_frozen BK112.out 2; have hfz10_3 := blk_frozen BK112.out 3; have hfz10_4 := blk_frozen BK112.out 4; have hfz10_5 := blk_frozen BK112.out 5; have hfz10_6 := blk_frozen BK112.out 6; have hfz10_7 := blk_frozen BK112.out 7))
        go_ret
        exact ⟨by first | rfl | (simp [errW_none, errW_some] <;> rfl) | (simp [*, errW_none, errW_some] <;> rfl), by repeat (first | (with_reducible first | exact HB.out | apply below_alloc | apply pw_below_drewN | apply below_drew1 | refine below_set ?_ GE112.out) | exact HB.out)⟩
      · rw [if_neg c8] at H
        exact absurd H (by simp)
    · rw [if_neg c7] at H
      have c7b0 : (a0_0 == 2) = false := beq_eq_false_iff_ne.mpr c7
      have c7b1 : (a0_0 != 2) = true := bne_iff_ne.mpr c7
      have HC11 := Aside0.mk H
      clear H
      go_enter Tryd.func13, Tryd.ntmps13
      go_upto_region 5 with (first | ((with_reducible refine gate_dst (N := 1) rfl ?_); (try (refine gate_guard (by rfl) ?_; dsimp only)); refine box_event ?hg (N := 1) ?hd (cs := #[.int .i64 a0_0, .string a0_1, .int .i64 a0_2, .int .i64 a0_3, .string a0_4, .string a0_5, .string a0_6, .slice A0_7 l0_7.length c0_7]) (t := 26) ?hr ?_; (case hd => rfl); (case hg => rfl); (case hr => first | (go_simp; done) | (go_simp; rfl)); intro gb112 hg w12 hbox hb; have n0_ := Aside0.mk (below_step (by repeat (first | (with_reducible first | exact HB.out | apply below_alloc | apply pw_below_drewN | apply below_drew1) | exact HB.out)) hb); have n1_ := Aside0.mk (hbox); have n2_ := Aside0.mk ((by rw [hg]; exact (below_size (by repeat (first | (with_reducible first | exact HB.out | apply below_alloc | apply pw_below_drewN | apply below_drew1) | exact HB.out))) : w.heap.size ≤ gb112)); have n3_ := Aside0.mk ((by rw [hg]; exact (below_size (by repeat (first | (with_reducible first | exact HB.out | apply below_alloc | apply pw_below_drewN | apply below_drew1) | exact HB.out))) : w.heap.size ≤ gb112)); clear HB; have HB := n0_; have BK112 := n1_; have GW112 := n2_; have GE112 := n3_; clear n0_ n1_ n2_ n3_; clear hb hbox hg; have hcz13_0 : w12.cell? ⟨gb112, 0, none⟩ = some (.int .i64 a0_0) := (blk_cell BK112.out 0).trans rfl; have hcz13_1 : w12.cell? ⟨gb112, 1, none⟩ = some (.string a0_1) := (blk_cell BK112.out 1).trans rfl; have hcz13_2 : w12.cell? ⟨gb112, 2, none⟩ = some (.int .i64 a0_2) := (blk_cell BK112.out 2).trans rfl; have hcz13_3 : w12.cell? ⟨gb112, 3, none⟩ = some (.int .i64 a0_3) := (blk_cell BK112.out 3).trans rfl; have hcz13_4 : w12.cell? ⟨gb112, 4, none⟩ = some (.string a0_4) := (blk_cell BK112.out 4).trans rfl; have hcz13_5 : w12.cell? ⟨gb112, 5, none⟩ = some (.string a0_5) := (blk_cell BK112.out 5).trans rfl; have hcz13_6 : w12.cell? ⟨gb112, 6, none⟩ = some (.string a0_6) := (blk_cell BK112.out 6).trans rfl; have hcz13_7 : w12.cell? ⟨gb112, 7, none⟩ = some (.slice A0_7 l0_7.length c0_7) := (blk_cell BK112.out 7).trans rfl; have hfz13_0 := blk_frozen BK112.out 0; have hfz13_1 := blk_frozen BK112.out 1; have hfz13_2 := blk_frozen BK112.out 2; have hfz13_3 := blk_frozen BK112.out 3; have hfz13_4 := blk_frozen BK112.out 4; have hfz13_5 := blk_frozen BK112.out 5; have hfz13_6 := blk_frozen BK112.out 6; have hfz13_7 := blk_frozen BK112.out 7))
      (try simp only [Act.put, List.setIfInBounds_toArray, List.set_cons_zero, List.set_cons_succ])
      go_cut [21] (fun v21 wc => ∃ (kq : Nat) (x21_10 : Bool), v21 = .bool x21_10 ∧ Aside0 (expr_Put.j0 P36_ kq x21_10 a0_0 a0_1 a0_2 a0_3 a0_4 a0_5 a0_6 l0_7 = some r) ∧ Aside0 (kq ≤ k) ∧ Aside0 (wc.heap[gb112]? = some (.cells #[.int .i64 a0_0, .string a0_1, .int .i64 a0_2, .int .i64 a0_3, .string a0_4, .string a0_5, .string a0_6, (.slice A0_7 l0_7.length c0_7)] 26 (0, 0))) ∧ Aside0 (Below w.heap.size w wc))
      case first =>
        have H := HC11.out
        clear HC11
        by_cases c14 : a0_0 = 3
        · rw [if_pos c14] at H
          have c14b0 : (a0_0 == 3) = true := beq_iff_eq.mpr c14
          have c14b1 : (a0_0 != 3) = false := bne_eq_false_iff_eq.mpr c14
          clear c14
          (first | rw [c14b0] | (simp only [i64_w, i32_w]; rw [c14b0]) | skip)
          have H' := Aside0.mk H
          clear H
          have hcz15_0 : w12.cell? ⟨gb112, 0, none⟩ = some (.int .i64 a0_0) := (blk_cell BK112.out 0).trans rfl
          have hcz15_1 : w12.cell? ⟨gb112, 1, none⟩ = some (.string a0_1) := (blk_cell BK112.out 1).trans rfl
          have hcz15_2 : w12.cell? ⟨gb112, 2, none⟩ = some (.int .i64 a0_2) := (blk_cell BK112.out 2).trans rfl
          have hcz15_3 : w12.cell? ⟨gb112, 3, none⟩ = some (.int .i64 a0_3) := (blk_cell BK112.out 3).trans rfl
          have hcz15_4 : w12.cell? ⟨gb112, 4, none⟩ = some (.string a0_4) := (blk_cell BK112.out 4).trans rfl
          have hcz15_5 : w12.cell? ⟨gb112, 5, none⟩ = some (.string a0_5) := (blk_cell BK112.out 5).trans rfl
          have hcz15_6 : w12.cell? ⟨gb112, 6, none⟩ = some (.string a0_6) := (blk_cell BK112.out 6).trans rfl
          have hcz15_7 : w12.cell? ⟨gb112, 7, none⟩ = some (.slice A0_7 l0_7.length c0_7) := (blk_cell BK112.out 7).trans rfl
          have hfz15_0 := blk_frozen BK112.out 0
          have hfz15_1 := blk_frozen BK112.out 1
          have hfz15_2 := blk_frozen BK112.out 2
          have hfz15_3 := blk_frozen BK112.out 3
          have hfz15_4 := blk_frozen BK112.out 4
          have hfz15_5 := blk_frozen BK112.out 5
          have hfz15_6 := blk_frozen BK112.out 6
          have hfz15_7 := blk_frozen BK112.out 7
          go_wp2
          go_meet
          case rel => exact ⟨_, (((l0_7.length : Int) == 1)), (by first | rfl | (simp; done) | (simp [*]; done)), H', ⟨by first | omega | exact Nat.le_refl _⟩, ⟨by (with_reducible repeat (first | refine blk_drewN ?_ _ | refine blk_drew ?_ | refine blk_alloc ?_ _)); exact BK112.out⟩, ⟨by repeat (first | (with_reducible first | exact HB.out | apply below_alloc | apply pw_below_drewN | apply below_drew1 | refine below_set ?_ GE112.out) | exact HB.out)⟩⟩
        · rw [if_neg c14] at H
          have c14b0 : (a0_0 == 3) = false := beq_eq_false_iff_ne.mpr c14
          have c14b1 : (a0_0 != 3) = true := bne_iff_ne.mpr c14
          (first | rw [c14b0] | (simp only [i64_w, i32_w]; rw [c14b0]) | skip)
          have H' := Aside0.mk H
          clear H
          have hcz16_0 : w12.cell? ⟨gb112, 0, none⟩ = some (.int .i64 a0_0) := (blk_cell BK112.out 0).trans rfl
          have hcz16_1 : w12.cell? ⟨gb112, 1, none⟩ = some (.string a0_1) := (blk_cell BK112.out 1).trans rfl
          have hcz16_2 : w12.cell? ⟨gb112, 2, none⟩ = some (.int .i64 a0_2) := (blk_cell BK112.out 2).trans rfl
          have hcz16_3 : w12.cell? ⟨gb112, 3, none⟩ = some (.int .i64 a0_3) := (blk_cell BK112.out 3).trans rfl
          have hcz16_4 : w12.cell? ⟨gb112, 4, none⟩ = some (.string a0_4) := (blk_cell BK112.out 4).trans rfl
          have hcz16_5 : w12.cell? ⟨gb112, 5, none⟩ = some (.string a0_5) := (blk_cell BK112.out 5).trans rfl
          have hcz16_6 : w12.cell? ⟨gb112, 6, none⟩ = some (.string a0_6) := (blk_cell BK112.out 6).trans rfl
          have hcz16_7 : w12.cell? ⟨gb112, 7, none⟩ = some (.slice A0_7 l0_7.length c0_7) := (blk_cell BK112.out 7).trans rfl
          have hfz16_0 := blk_frozen BK112.out 0
          have hfz16_1 := blk_frozen BK112.out 1
          have hfz16_2 := blk_frozen BK112.out 2
          have hfz16_3 := blk_frozen BK112.out 3
          have hfz16_4 := blk_frozen BK112.out 4
          have hfz16_5 := blk_frozen BK112.out 5
          have hfz16_6 := blk_frozen BK112.out 6
          have hfz16_7 := blk_frozen BK112.out 7
          go_wp2
          go_meet
          case rel => exact ⟨_, (false), (by first | rfl | (simp; done) | (simp [*]; done)), H', ⟨by first | omega | exact Nat.le_refl _⟩, ⟨by (with_reducible repeat (first | refine blk_drewN ?_ _ | refine blk_drew ?_ | refine blk_alloc ?_ _)); exact BK112.out⟩, ⟨by repeat (first | (with_reducible first | exact HB.out | apply below_alloc | apply pw_below_drewN | apply below_drew1 | refine below_set ?_ GE112.out) | exact HB.out)⟩⟩
      case rest =>
        clear HC11
        try clear c1
        try clear c2
        try clear c2b0
        try clear c2b1
        try clear p2
        try clear c3
        try clear c3b0
        try clear c3b1
        try clear c3b2
        try clear c4
        try clear c4b0
        try clear c4b1
        try clear c4b2
        try clear c7
        try clear c7b0
        try clear c7b1
        try clear c8
        try clear c8b0
        try clear c8b1
        try clear c8b2
        try clear c13
        try clear c14
        try clear c14b0
        try clear c14b1
        try clear hcz10_0
        try clear hcz10_1
        try clear hcz10_2
        try clear hcz10_3
        try clear hcz10_4
        try clear hcz10_5
        try clear hcz10_6
        try clear hcz10_7
        try clear hcz13_0
        try clear hcz13_1
        try clear hcz13_2
        try clear hcz13_3
        try clear hcz13_4
        try clear hcz13_5
        try clear hcz13_6
        try clear hcz13_7
        try clear hcz15_0
        try clear hcz15_1
        try clear hcz15_2
        try clear hcz15_3
        try clear hcz15_4
        try clear hcz15_5
        try clear hcz15_6
        try clear hcz15_7
        try clear hcz16_0
        try clear hcz16_1
        try clear hcz16_2
        try clear hcz16_3
        try clear hcz16_4
        try clear hcz16_5
        try clear hcz16_6
        try clear hcz16_7
        try clear hcz6_0
        try clear hcz6_1
        try clear hcz6_2
        try clear hcz6_3
        try clear hcz6_4
        try clear hcz6_5
        try clear hcz6_6
        try clear hcz6_7
        try clear hfz10_0
        try clear hfz10_1
        try clear hfz10_2
        try clear hfz10_3
        try clear hfz10_4
        try clear hfz10_5
        try clear hfz10_6
        try clear hfz10_7
        try clear hfz13_0
        try clear hfz13_1
        try clear hfz13_2
        try clear hfz13_3
        try clear hfz13_4
        try clear hfz13_5
        try clear hfz13_6
        try clear hfz13_7
        try clear hfz15_0
        try clear hfz15_1
        try clear hfz15_2
        try clear hfz15_3
        try clear hfz15_4
        try clear hfz15_5
        try clear hfz15_6
        try clear hfz15_7
        try clear hfz16_0
        try clear hfz16_1
        try clear hfz16_2
        try clear hfz16_3
        try clear hfz16_4
        try clear hfz16_5
        try clear hfz16_6
        try clear hfz16_7
        try clear hfz6_0
        try clear hfz6_1
        try clear hfz6_2
        try clear hfz6_3
        try clear hfz6_4
        try clear hfz6_5
        try clear hfz6_6
        try clear hfz6_7
        obtain ⟨kq, x21_10, rfl, HA, HJ10, BK112, HB⟩ := hcut
        cases kq with
        | zero => exact absurd HA.out (by simp [expr_Put.j0])
        | succ kj10 =>
          have H := HA.out
          clear HA
          simp only [expr_Put.j0] at H
          by_cases c17 : x21_10 = true
          · subst c17
            have H1 : (if 0 < (l0_7.length : Int) then ((P36_ ((rd_T26 l0_7 0).f0) ((rd_T26 l0_7 0).f1) ((rd_T26 l0_7 0).f2.f0) ((rd_T26 l0_7 0).f2.f1) ((rd_T26 l0_7 0).f2.f2) ((rd_T26 l0_7 0).f3) ((rd_T26 l0_7 0).f4) ((rd_T26 l0_7 0).f5) 7).bind fun t114 => (if a0_1.size + t114.size ≤ 9223372036854775807 then (some (a0_1 ++ t114)) else (none))) else (none)) = some r := by rw [if_pos rfl] at H; exact H
            clear H
            have H := H1
            clear H1
            by_cases c18 : 0 < (l0_7.length : Int)
            · rw [if_pos c18] at H
              have c18b0 : decide (0 < (l0_7.length : Int)) = true := decide_eq_true c18
              have c18b1 : decide (0 < l0_7.length) = true := decide_eq_true (by omega)
              clear c18
              replace H := Option.bind_eq_some_iff.mp H
              obtain ⟨t114, A190, H⟩ := H
              replace H : (if a0_1.size + t114.size ≤ 9223372036854775807 then (some (a0_1 ++ t114)) else (none)) = some r := H
              have A19 := Aside0.mk A190
              clear A190
              by_cases c20 : a0_1.size + t114.size ≤ 9223372036854775807
              · rw [if_pos c20] at H
                have c20b0 := eq_true c20
                have c20b1 : decide (a0_1.size + t114.size ≤ 9223372036854775807) = true := decide_eq_true c20
                try have c20b2 : (9223372036854775807 < a0_1.size + t114.size) = False := eq_false (Nat.not_lt.2 c20)
                obtain rfl := Option.some.inj H
                try go_wp2
                have n0_ := Aside0.mk (blk_drew BK112.out)
                have n1_ := Aside0.mk (below_drew1 HB.out)
                clear BK112
                clear HB
                have BK112 := n0_
                have HB := n1_
                clear n0_ n1_
                have p113 : 0 ≤ (0 : Int) := (by omega)
                have q113 : 0 < (l0_7.length : Int) := of_decide_eq_true (by first | (with_reducible assumption) | assumption)
                obtain ⟨ad113, A113_7, c113_7, e113, hx113_0, hx113_1, hx113_2, hx113_3, hx113_4, hx113_5, hx113_6, hx113_7, hl113_7, hi113_7⟩ := at_T26 HR0_7.out 0 p113 q113
                have hw113_7 := hx113_7
                (try rw [show ((0 : Int)).toNat = 0 from rfl] at hw113_7)
                (try rw [show 0 * 8 = 0 from rfl] at hw113_7)
                (try rw [Addr.add_zero'] at hw113_7)
                have hw113_6 := hx113_6
                (try rw [show ((0 : Int)).toNat = 0 from rfl] at hw113_6)
                (try rw [show 0 * 8 = 0 from rfl] at hw113_6)
                (try rw [Addr.add_zero'] at hw113_6)
                have hw113_5 := hx113_5
                (try rw [show ((0 : Int)).toNat = 0 from rfl] at hw113_5)
                (try rw [show 0 * 8 = 0 from rfl] at hw113_5)
                (try rw [Addr.add_zero'] at hw113_5)
                have hw113_4 := hx113_4
                (try rw [show ((0 : Int)).toNat = 0 from rfl] at hw113_4)
                (try rw [show 0 * 8 = 0 from rfl] at hw113_4)
                (try rw [Addr.add_zero'] at hw113_4)
                have hw113_3 := hx113_3
                (try rw [show ((0 : Int)).toNat = 0 from rfl] at hw113_3)
                (try rw [show 0 * 8 = 0 from rfl] at hw113_3)
                (try rw [Addr.add_zero'] at hw113_3)
                have hw113_2 := hx113_2
                (try rw [show ((0 : Int)).toNat = 0 from rfl] at hw113_2)
                (try rw [show 0 * 8 = 0 from rfl] at hw113_2)
                (try rw [Addr.add_zero'] at hw113_2)
                have hw113_1 := hx113_1
                (try rw [show ((0 : Int)).toNat = 0 from rfl] at hw113_1)
                (try rw [show 0 * 8 = 0 from rfl] at hw113_1)
                (try rw [Addr.add_zero'] at hw113_1)
                have hw113_0 := hx113_0
                (try rw [show ((0 : Int)).toNat = 0 from rfl] at hw113_0)
                (try rw [show 0 * 8 = 0 from rfl] at hw113_0)
                (try rw [Addr.add_zero'] at hw113_0)
                cases e113
                have qi113 : (0 < l0_7.length) = True := eq_true (by omega)
                (try rw [show ((0 : Int)).toNat = 0 from rfl] at hx113_0)
                (try rw [show 0 * 8 = 0 from rfl] at hx113_0)
                (try rw [Addr.add_zero'] at hx113_0)
                (try rw [show ((0 : Int)).toNat = 0 from rfl] at hx113_1)
                (try rw [show 0 * 8 = 0 from rfl] at hx113_1)
                (try rw [Addr.add_zero'] at hx113_1)
                (try rw [show ((0 : Int)).toNat = 0 from rfl] at hx113_2)
                (try rw [show 0 * 8 = 0 from rfl] at hx113_2)
                (try rw [Addr.add_zero'] at hx113_2)
                (try rw [show ((0 : Int)).toNat = 0 from rfl] at hx113_3)
                (try rw [show 0 * 8 = 0 from rfl] at hx113_3)
                (try rw [Addr.add_zero'] at hx113_3)
                (try rw [show ((0 : Int)).toNat = 0 from rfl] at hx113_4)
                (try rw [show 0 * 8 = 0 from rfl] at hx113_4)
                (try rw [Addr.add_zero'] at hx113_4)
                (try rw [show ((0 : Int)).toNat = 0 from rfl] at hx113_5)
                (try rw [show 0 * 8 = 0 from rfl] at hx113_5)
                (try rw [Addr.add_zero'] at hx113_5)
                (try rw [show ((0 : Int)).toNat = 0 from rfl] at hx113_6)
                (try rw [show 0 * 8 = 0 from rfl] at hx113_6)
                (try rw [Addr.add_zero'] at hx113_6)
                (try rw [show ((0 : Int)).toNat = 0 from rfl] at hx113_7)
                (try rw [show 0 * 8 = 0 from rfl] at hx113_7)
                (try rw [Addr.add_zero'] at hx113_7)
                replace hx113_0 := (HB.out.cell (World.block_lt_of_cell? w _ hx113_0)).trans hx113_0
                replace hx113_1 := (HB.out.cell (World.block_lt_of_cell? w _ hx113_1)).trans hx113_1
                replace hx113_2 := (HB.out.cell (World.block_lt_of_cell? w _ hx113_2)).trans hx113_2
                replace hx113_3 := (HB.out.cell (World.block_lt_of_cell? w _ hx113_3)).trans hx113_3
                replace hx113_4 := (HB.out.cell (World.block_lt_of_cell? w _ hx113_4)).trans hx113_4
                replace hx113_5 := (HB.out.cell (World.block_lt_of_cell? w _ hx113_5)).trans hx113_5
                replace hx113_6 := (HB.out.cell (World.block_lt_of_cell? w _ hx113_6)).trans hx113_6
                replace hx113_7 := (HB.out.cell (World.block_lt_of_cell? w _ hx113_7)).trans hx113_7
                have HR113_7 := Aside0.mk hi113_7
                have HC113_7 := Aside0.mk hl113_7
                clear hi113_7 hl113_7
                replace p113 := eq_true p113
                replace q113 := eq_true q113
                refine start_ (n := 9) (S := fun w' => w'.cell? ⟨gb112, 0, none⟩ = some (.int .i64 a0_0) ∧ w'.cell? ⟨gb112, 1, none⟩ = some (.string a0_1) ∧ w'.cell? ⟨gb112, 2, none⟩ = some (.int .i64 a0_2) ∧ w'.cell? ⟨gb112, 3, none⟩ = some (.int .i64 a0_3) ∧ w'.cell? ⟨gb112, 4, none⟩ = some (.string a0_4) ∧ w'.cell? ⟨gb112, 5, none⟩ = some (.string a0_5) ∧ w'.cell? ⟨gb112, 6, none⟩ = some (.string a0_6) ∧ w'.cell? ⟨gb112, 7, none⟩ = some (.slice (some ad113) l0_7.length c0_7) ∧ w'.cell? ad113 = some (.int .i64 ((rd_T26 l0_7 0).f0)) ∧ w'.cell? ⟨ad113.block, ad113.off + 1, none⟩ = some (.string ((rd_T26 l0_7 0).f1)) ∧ w'.cell? ⟨ad113.block, ad113.off + 2, none⟩ = some (.int .i64 ((rd_T26 l0_7 0).f2.f0)) ∧ w'.cell? ⟨ad113.block, ad113.off + 3, none⟩ = some (.int .i64 ((rd_T26 l0_7 0).f2.f1)) ∧ w'.cell? ⟨ad113.block, ad113.off + 4, none⟩ = some (.string ((rd_T26 l0_7 0).f2.f2)) ∧ w'.cell? ⟨ad113.block, ad113.off + 5, none⟩ = some (.string ((rd_T26 l0_7 0).f3)) ∧ w'.cell? ⟨ad113.block, ad113.off + 6, none⟩ = some (.string ((rd_T26 l0_7 0).f4)) ∧ w'.cell? ⟨ad113.block, ad113.off + 7, none⟩ = some (.slice A113_7 ((rd_T26 l0_7 0).f5).length c113_7)) (ds := []) #[false, false, false, false, false, false, false, false, false] (by kernel_rfl) rfl rfl ⟨(blk_cell BK112.out 0).trans rfl, (blk_cell BK112.out 1).trans rfl, (blk_cell BK112.out 2).trans rfl, (blk_cell BK112.out 3).trans rfl, (blk_cell BK112.out 4).trans rfl, (blk_cell BK112.out 5).trans rfl, (blk_cell BK112.out 6).trans rfl, (blk_cell BK112.out 7).trans rfl, ((HB.out.cell (World.block_lt_of_cell? w _ hw113_0)).trans hw113_0), ((HB.out.cell (World.block_lt_of_cell? w _ hw113_1)).trans hw113_1), ((HB.out.cell (World.block_lt_of_cell? w _ hw113_2)).trans hw113_2), ((HB.out.cell (World.block_lt_of_cell? w _ hw113_3)).trans hw113_3), ((HB.out.cell (World.block_lt_of_cell? w _ hw113_4)).trans hw113_4), ((HB.out.cell (World.block_lt_of_cell? w _ hw113_5)).trans hw113_5), ((HB.out.cell (World.block_lt_of_cell? w _ hw113_6)).trans hw113_6), ((HB.out.cell (World.block_lt_of_cell? w _ hw113_7)).trans hw113_7)⟩ (fun hHeld => ?_); refine with_tabW expr_Put.tab6 expr_Put.bits6 (fun HT_ HW_ => ?_)
                generalize wc.drew = w21 at BK112 HB HR113_7 hx113_0 hx113_1 hx113_2 hx113_3 hx113_4 hx113_5 hx113_6 hx113_7 hHeld ⊢
                refine pure_ (i := 0) (N := some 31) (v := ?_) (a' := ?_) #[true, false, false, false, false, false, false, false, false] rfl rfl (any_of HT_.out (by kernel_rfl)) (fun _ _ _ h => h) (Or.inl ⟨by rfl, ?_⟩) ?_ ?_
                rotate_left
                · intro w'
                  go_simp
                  with_reducible rfl
                rotate_left
                · simp only [Act.put, List.setIfInBounds_toArray, List.set_cons_zero, List.set_cons_succ, i64_w, i32_w]
                  rfl
                refine pure_ (i := 2) (N := some 33) (v := ?_) (a' := ?_) #[true, false, true, false, false, false, false, false, false] rfl rfl (any_of HT_.out (by kernel_rfl)) (fun _ _ _ h => h) (Or.inl ⟨by rfl, ?_⟩) ?_ ?_
                rotate_left
                · intro w'
                  go_simp
                  with_reducible rfl
                rotate_left
                · simp only [Act.put, List.setIfInBounds_toArray, List.set_cons_zero, List.set_cons_succ, i64_w, i32_w]
                  rfl
                refine take_ (i := 1) (N := some 32) (v := ?_) (a' := ?_) #[true, true, true, false, false, false, false, false, false] rfl rfl (take_ofW HT_.out HW_.out (by kernel_rfl)) (fun _ _ _ h => h) (Or.inl ⟨by rfl, ?_⟩) hHeld ?_ ?_
                rotate_left
                · rintro w' ⟨s0, s1, s2, s3, s4, s5, s6, s7, s8, s9, s10, s11, s12, s13, s14, s15⟩
                  go_simp
                  with_reducible rfl
                rotate_left
                · simp only [Act.put, List.setIfInBounds_toArray, List.set_cons_zero, List.set_cons_succ, i64_w, i32_w]
                  rfl
                refine take_ (i := 3) (N := some 34) (v := ?_) (a' := ?_) #[true, true, true, true, false, false, false, false, false] rfl rfl (take_ofW HT_.out HW_.out (by kernel_rfl)) (fun _ _ _ h => h) (Or.inl ⟨by rfl, ?_⟩) hHeld ?_ ?_
                rotate_left
                · rintro w' ⟨s0, s1, s2, s3, s4, s5, s6, s7, s8, s9, s10, s11, s12, s13, s14, s15⟩
                  go_simp
                  with_reducible rfl
                rotate_left
                · simp only [Act.put, List.setIfInBounds_toArray, List.set_cons_zero, List.set_cons_succ, i64_w, i32_w]
                  rfl
                refine pure_ (i := 4) (N := some 35) (v := ?_) (a' := ?_) #[true, true, true, true, true, false, false, false, false] rfl rfl (any_of HT_.out (by kernel_rfl)) (fun _ _ _ h => h) (Or.inl ⟨by rfl, ?_⟩) ?_ ?_
                rotate_left
                · intro w'
                  go_simp
                  with_reducible rfl
                rotate_left
                · simp only [Act.put, List.setIfInBounds_toArray, List.set_cons_zero, List.set_cons_succ, i64_w, i32_w]
                  rfl
                refine take_ (i := 5) (N := some 36) (v := ?_) (a' := ?_) #[true, true, true, true, true, true, false, false, false] rfl rfl (take_ofW HT_.out HW_.out (by kernel_rfl)) (fun _ _ _ h => h) (Or.inl ⟨by rfl, ?_⟩) hHeld ?_ ?_
                rotate_left
                · rintro w' ⟨s0, s1, s2, s3, s4, s5, s6, s7, s8, s9, s10, s11, s12, s13, s14, s15⟩
                  go_simp
                  with_reducible rfl
                rotate_left
                · simp only [Act.put, List.setIfInBounds_toArray, List.set_cons_zero, List.set_cons_succ, i64_w, i32_w]
                  rfl
                refine one_ (i := 6) (N := some 37) #[true, true, true, true, true, true, true, false, false] rfl rfl (one_of HT_.out (by kernel_rfl)) (by decide) (fun K hK => ?_)
                refine goes_ Tryd.func36 (by kernel_rfl) rfl #[.agg #[.int .i64 ((rd_T26 l0_7 0).f0), .string ((rd_T26 l0_7 0).f1), .int .i64 ((rd_T26 l0_7 0).f2.f0), .int .i64 ((rd_T26 l0_7 0).f2.f1), .string ((rd_T26 l0_7 0).f2.f2), .string ((rd_T26 l0_7 0).f3), .string ((rd_T26 l0_7 0).f4), .slice A113_7 ((rd_T26 l0_7 0).f5).length c113_7], .int .i64 7] (by rfl) rfl rfl (by (try simp only [List.map_toArray, List.map_cons, List.map_nil]); first | done | rfl | (simp only [List.length_drop, List.length_take]; rfl)) ?_
                with_reducible refine (hP36_ ((rd_T26 l0_7 0).f0) ((rd_T26 l0_7 0).f1) ((rd_T26 l0_7 0).f2.f0) ((rd_T26 l0_7 0).f2.f1) ((rd_T26 l0_7 0).f2.f2) ((rd_T26 l0_7 0).f3) ((rd_T26 l0_7 0).f4) _ _ ((rd_T26 l0_7 0).f5) 7 t114 _ ?side1 ?side2 ?side3 A19.out).mono ?_
                (case side1 => repeat (first | exact (Kd.C_below HR113_7.out HB.out) | (with_reducible refine Kd.C_alloc ?_ _) | (with_reducible refine Kd.C_drewN ?_ _) | (with_reducible refine Kd.C_drew ?_)))
                (case side2 => exact HC113_7.out)
                (case side3 => exact Glob.below HG.out (by repeat (first | (with_reducible first | exact HB.out | apply below_alloc | apply pw_below_drewN | apply below_drew1 | refine below_set ?_ GE112.out) | exact HB.out)))
                rintro e w22 ⟨rfl, hb⟩
                refine ⟨_, rfl, ?_⟩
                have n0_ := Aside0.mk (blk_below (g := gb112) (o := .cells #[.int .i64 a0_0, .string a0_1, .int .i64 a0_2, .int .i64 a0_3, .string a0_4, .string a0_5, .string a0_6, .slice (some ad113) l0_7.length c0_7] 26 (0, 0)) (by (with_reducible repeat (first | refine blk_drewN ?_ _ | refine blk_drew ?_ | refine blk_alloc ?_ _)); exact BK112.out) hb)
                have n1_ := Aside0.mk (below_step (by repeat (first | (with_reducible first | exact HB.out | apply below_alloc | apply pw_below_drewN | apply below_drew1 | refine below_set ?_ GE112.out) | exact HB.out)) hb)
                clear BK112
                clear HB
                have BK112 := n0_
                have HB := n1_
                clear n0_ n1_
                (try clear hb)
                (try clear hb2)
                (try clear hk)
                (try clear hi)
                refine hK.out _ _ ⟨(blk_cell BK112.out 0).trans rfl, (blk_cell BK112.out 1).trans rfl, (blk_cell BK112.out 2).trans rfl, (blk_cell BK112.out 3).trans rfl, (blk_cell BK112.out 4).trans rfl, (blk_cell BK112.out 5).trans rfl, (blk_cell BK112.out 6).trans rfl, (blk_cell BK112.out 7).trans rfl, ((HB.out.cell (World.block_lt_of_cell? w _ hw113_0)).trans hw113_0), ((HB.out.cell (World.block_lt_of_cell? w _ hw113_1)).trans hw113_1), ((HB.out.cell (World.block_lt_of_cell? w _ hw113_2)).trans hw113_2), ((HB.out.cell (World.block_lt_of_cell? w _ hw113_3)).trans hw113_3), ((HB.out.cell (World.block_lt_of_cell? w _ hw113_4)).trans hw113_4), ((HB.out.cell (World.block_lt_of_cell? w _ hw113_5)).trans hw113_5), ((HB.out.cell (World.block_lt_of_cell? w _ hw113_6)).trans hw113_6), ((HB.out.cell (World.block_lt_of_cell? w _ hw113_7)).trans hw113_7)⟩ (fun hHeld => ?_)
                clear hK K
                refine norm_ (a' := ?_) ?_ ?_
                rotate_left
                · show Act.put _ (some 37) _ = _
                  simp only [Act.put, List.setIfInBounds_toArray, List.set_cons_zero, List.set_cons_succ, i64_w, i32_w]
                  rfl
                refine pure_ (i := 7) (N := some 38) (v := ?_) (a' := ?_) #[true, true, true, true, true, true, true, true, false] rfl rfl (any_of HT_.out (by kernel_rfl)) (fun _ _ _ h => h) (Or.inl ⟨by rfl, ?_⟩) ?_ ?_
                rotate_left
                · intro w'
                  go_simp
                  with_reducible rfl
                rotate_left
                · simp only [Act.put, List.setIfInBounds_toArray, List.set_cons_zero, List.set_cons_succ, i64_w, i32_w]
                  rfl
                refine pure_ (i := 8) (N := some 2) (v := ?_) (a' := ?_) #[true, true, true, true, true, true, true, true, true] rfl rfl (any_of HT_.out (by kernel_rfl)) (fun _ _ _ h => h) (Or.inl ⟨by rfl, ?_⟩) ?_ ?_
                rotate_left
                · intro w'
                  go_simp
                  with_reducible rfl
                rotate_left
                · simp only [Act.put, List.setIfInBounds_toArray, List.set_cons_zero, List.set_cons_succ, i64_w, i32_w]
                  rfl
                refine done_ (done_of HT_.out (by kernel_rfl)) ?_
                try go_wp2
                go_ret
                exact ⟨by first | rfl | (simp [errW_none, errW_some] <;> rfl) | (simp [*, errW_none, errW_some] <;> rfl), by repeat (first | (with_reducible first | exact HB.out | apply below_alloc | apply pw_below_drewN | apply below_drew1 | refine below_set ?_ GE112.out) | exact HB.out)⟩
              · rw [if_neg c20] at H
                exact absurd H (by simp)
            · rw [if_neg c18] at H
              exact absurd H (by simp)
          · replace c17 := Bool.eq_false_iff.mpr c17
            subst c17
            have H1 : (if a0_0 = 4 then (expr_Put.j1 P36_ kj10 ((l0_7.length : Int) == 2) a0_0 a0_1 a0_2 a0_3 a0_4 a0_5 a0_6 l0_7) else (expr_Put.j1 P36_ kj10 false a0_0 a0_1 a0_2 a0_3 a0_4 a0_5 a0_6 l0_7)) = some r := by rw [if_neg (show ¬ (false = true) by decide)] at H; exact H
            clear H
            have H := H1
            clear H1
            have HC23 := Aside0.mk H
            clear H
            go_upto_region 7 with (fail)
            go_cut [39] (fun v39 wc => ∃ (kq : Nat) (x39_22 : Bool), v39 = .bool x39_22 ∧ Aside0 (expr_Put.j1 P36_ kq x39_22 a0_0 a0_1 a0_2 a0_3 a0_4 a0_5 a0_6 l0_7 = some r) ∧ Aside0 (kq ≤ kj10) ∧ Aside0 (wc.heap[gb112]? = some (.cells #[.int .i64 a0_0, .string a0_1, .int .i64 a0_2, .int .i64 a0_3, .string a0_4, .string a0_5, .string a0_6, (.slice A0_7 l0_7.length c0_7)] 26 (0, 0))) ∧ Aside0 (Below w.heap.size w wc))
            case first =>
              have H := HC23.out
              clear HC23
              by_cases c24 : a0_0 = 4
              · rw [if_pos c24] at H
                have c24b0 : (a0_0 == 4) = true := beq_iff_eq.mpr c24
                have c24b1 : (a0_0 != 4) = false := bne_eq_false_iff_eq.mpr c24
                clear c24
                (first | rw [c24b0] | (simp only [i64_w, i32_w]; rw [c24b0]) | skip)
                have H' := Aside0.mk H
                clear H
                have hcz25_0 : wc.cell? ⟨gb112, 0, none⟩ = some (.int .i64 a0_0) := (blk_cell BK112.out 0).trans rfl
                have hcz25_1 : wc.cell? ⟨gb112, 1, none⟩ = some (.string a0_1) := (blk_cell BK112.out 1).trans rfl
                have hcz25_2 : wc.cell? ⟨gb112, 2, none⟩ = some (.int .i64 a0_2) := (blk_cell BK112.out 2).trans rfl
                have hcz25_3 : wc.cell? ⟨gb112, 3, none⟩ = some (.int .i64 a0_3) := (blk_cell BK112.out 3).trans rfl
                have hcz25_4 : wc.cell? ⟨gb112, 4, none⟩ = some (.string a0_4) := (blk_cell BK112.out 4).trans rfl
                have hcz25_5 : wc.cell? ⟨gb112, 5, none⟩ = some (.string a0_5) := (blk_cell BK112.out 5).trans rfl
                have hcz25_6 : wc.cell? ⟨gb112, 6, none⟩ = some (.string a0_6) := (blk_cell BK112.out 6).trans rfl
                have hcz25_7 : wc.cell? ⟨gb112, 7, none⟩ = some (.slice A0_7 l0_7.length c0_7) := (blk_cell BK112.out 7).trans rfl
                have hfz25_0 := blk_frozen BK112.out 0
                have hfz25_1 := blk_frozen BK112.out 1
                have hfz25_2 := blk_frozen BK112.out 2
                have hfz25_3 := blk_frozen BK112.out 3
                have hfz25_4 := blk_frozen BK112.out 4
                have hfz25_5 := blk_frozen BK112.out 5
                have hfz25_6 := blk_frozen BK112.out 6
                have hfz25_7 := blk_frozen BK112.out 7
                go_wp2
                go_meet
                case rel => exact ⟨_, (((l0_7.length : Int) == 2)), (by first | rfl | (simp; done) | (simp [*]; done)), H', ⟨by have := HJ10.out; first | omega | exact Nat.le_refl _⟩, ⟨by (with_reducible repeat (first | refine blk_drewN ?_ _ | refine blk_drew ?_ | refine blk_alloc ?_ _)); exact BK112.out⟩, ⟨by repeat (first | (with_reducible first | exact HB.out | apply below_alloc | apply pw_below_drewN | apply below_drew1 | refine below_set ?_ GE112.out) | exact HB.out)⟩⟩
              · rw [if_neg c24] at H
                have c24b0 : (a0_0 == 4) = false := beq_eq_false_iff_ne.mpr c24
                have c24b1 : (a0_0 != 4) = true := bne_iff_ne.mpr c24
                (first | rw [c24b0] | (simp only [i64_w, i32_w]; rw [c24b0]) | skip)
                have H' := Aside0.mk H
                clear H
                have hcz26_0 : wc.cell? ⟨gb112, 0, none⟩ = some (.int .i64 a0_0) := (blk_cell BK112.out 0).trans rfl
                have hcz26_1 : wc.cell? ⟨gb112, 1, none⟩ = some (.string a0_1) := (blk_cell BK112.out 1).trans rfl
                have hcz26_2 : wc.cell? ⟨gb112, 2, none⟩ = some (.int .i64 a0_2) := (blk_cell BK112.out 2).trans rfl
                have hcz26_3 : wc.cell? ⟨gb112, 3, none⟩ = some (.int .i64 a0_3) := (blk_cell BK112.out 3).trans rfl
                have hcz26_4 : wc.cell? ⟨gb112, 4, none⟩ = some (.string a0_4) := (blk_cell BK112.out 4).trans rfl
                have hcz26_5 : wc.cell? ⟨gb112, 5, none⟩ = some (.string a0_5) := (blk_cell BK112.out 5).trans rfl
                have hcz26_6 : wc.cell? ⟨gb112, 6, none⟩ = some (.string a0_6) := (blk_cell BK112.out 6).trans rfl
                have hcz26_7 : wc.cell? ⟨gb112, 7, none⟩ = some (.slice A0_7 l0_7.length c0_7) := (blk_cell BK112.out 7).trans rfl
                have hfz26_0 := blk_frozen BK112.out 0
                have hfz26_1 := blk_frozen BK112.out 1
                have hfz26_2 := blk_frozen BK112.out 2
                have hfz26_3 := blk_frozen BK112.out 3
                have hfz26_4 := blk_frozen BK112.out 4
                have hfz26_5 := blk_frozen BK112.out 5
                have hfz26_6 := blk_frozen BK112.out 6
                have hfz26_7 := blk_frozen BK112.out 7
                go_wp2
                go_meet
                case rel => exact ⟨_, (false), (by first | rfl | (simp; done) | (simp [*]; done)), H', ⟨by have := HJ10.out; first | omega | exact Nat.le_refl _⟩, ⟨by (with_reducible repeat (first | refine blk_drewN ?_ _ | refine blk_drew ?_ | refine blk_alloc ?_ _)); exact BK112.out⟩, ⟨by repeat (first | (with_reducible first | exact HB.out | apply below_alloc | apply pw_below_drewN | apply below_drew1 | refine below_set ?_ GE112.out) | exact HB.out)⟩⟩
            case rest =>
              clear HC23
              try clear c1
              try clear p1
              try clear q1
              try clear hx1
              try clear qi1
              try clear c2
              try clear c2b0
              try clear c2b1
              try clear p2
              try clear c3
              try clear c3b0
              try clear c3b1
              try clear c3b2
              try clear c4
              try clear c4b0
              try clear c4b1
              try clear c4b2
              try clear c7
              try clear c7b0
              try clear c7b1
              try clear c8
              try clear c8b0
              try clear c8b1
              try clear c8b2
              try clear c11
              try clear p11
              try clear q11
              try clear hx11
              try clear qi11
              try clear c13
              try clear c14
              try clear c14b0
              try clear c14b1
              try clear c17
              try clear c18
              try clear c18b0
              try clear c18b1
              try clear c20
              try clear c20b0
              try clear c20b1
              try clear c20b2
              try clear c24
              try clear c24b0
              try clear c24b1
              try clear hcz10_0
              try clear hcz10_1
              try clear hcz10_2
              try clear hcz10_3
              try clear hcz10_4
              try clear hcz10_5
              try clear hcz10_6
              try clear hcz10_7
              try clear hcz13_0
              try clear hcz13_1
              try clear hcz13_2
              try clear hcz13_3
              try clear hcz13_4
              try clear hcz13_5
              try clear hcz13_6
              try clear hcz13_7
              try clear hcz15_0
              try clear hcz15_1
              try clear hcz15_2
              try clear hcz15_3
              try clear hcz15_4
              try clear hcz15_5
              try clear hcz15_6
              try clear hcz15_7
              try clear hcz16_0
              try clear hcz16_1
              try clear hcz16_2
              try clear hcz16_3
              try clear hcz16_4
              try clear hcz16_5
              try clear hcz16_6
              try clear hcz16_7
              try clear hcz25_0
              try clear hcz25_1
              try clear hcz25_2
              try clear hcz25_3
              try clear hcz25_4
              try clear hcz25_5
              try clear hcz25_6
              try clear hcz25_7
              try clear hcz26_0
              try clear hcz26_1
              try clear hcz26_2
              try clear hcz26_3
              try clear hcz26_4
              try clear hcz26_5
              try clear hcz26_6
              try clear hcz26_7
              try clear hcz6_0
              try clear hcz6_1
              try clear hcz6_2
              try clear hcz6_3
              try clear hcz6_4
              try clear hcz6_5
              try clear hcz6_6
              try clear hcz6_7
              try clear hfz10_0
              try clear hfz10_1
              try clear hfz10_2
              try clear hfz10_3
              try clear hfz10_4
              try clear hfz10_5
              try clear hfz10_6
              try clear hfz10_7
              try clear hfz13_0
              try clear hfz13_1
              try clear hfz13_2
              try clear hfz13_3
              try clear hfz13_4
              try clear hfz13_5
              try clear hfz13_6
              try clear hfz13_7
              try clear hfz15_0
              try clear hfz15_1
              try clear hfz15_2
              try clear hfz15_3
              try clear hfz15_4
              try clear hfz15_5
              try clear hfz15_6
              try clear hfz15_7
              try clear hfz16_0
              try clear hfz16_1
              try clear hfz16_2
              try clear hfz16_3
              try clear hfz16_4
              try clear hfz16_5
              try clear hfz16_6
              try clear hfz16_7
              try clear hfz25_0
              try clear hfz25_1
              try clear hfz25_2
              try clear hfz25_3
              try clear hfz25_4
              try clear hfz25_5
              try clear hfz25_6
              try clear hfz25_7
              try clear hfz26_0
              try clear hfz26_1
              try clear hfz26_2
              try clear hfz26_3
              try clear hfz26_4
              try clear hfz26_5
              try clear hfz26_6
              try clear hfz26_7
              try clear hfz6_0
              try clear hfz6_1
              try clear hfz6_2
              try clear hfz6_3
              try clear hfz6_4
              try clear hfz6_5
              try clear hfz6_6
              try clear hfz6_7
              try clear hx113_0
              try clear hx113_1
              try clear hx113_2
              try clear hx113_3
              try clear hx113_4
              try clear hx113_5
              try clear hx113_6
              try clear hx113_7
              try clear p113
              try clear p2
              try clear q113
              obtain ⟨kq, x39_22, rfl, HA, HJ22, BK112, HB⟩ := hcut
              cases kq with
              | zero => exact absurd HA.out (by simp [expr_Put.j1])
              | succ kj22 =>
                have H := HA.out
                clear HA
                simp only [expr_Put.j1] at H
                by_cases c27 : x39_22 = true
                · subst c27
                  have H1 : ((expr_Level.f kj22 a0_1).bind fun t115 => (if 0 < (l0_7.length : Int) then ((P36_ ((rd_T26 l0_7 0).f0) ((rd_T26 l0_7 0).f1) ((rd_T26 l0_7 0).f2.f0) ((rd_T26 l0_7 0).f2.f1) ((rd_T26 l0_7 0).f2.f2) ((rd_T26 l0_7 0).f3) ((rd_T26 l0_7 0).f4) ((rd_T26 l0_7 0).f5) t115).bind fun t117 => (if t117.size + 1 ≤ 9223372036854775807 then (if (t117 ++ (⟨#[32]⟩ : ByteArray)).size + a0_1.size ≤ 9223372036854775807 then (if ((t117 ++ (⟨#[32]⟩ : ByteArray)) ++ a0_1).size + 1 ≤ 9223372036854775807 then (if 1 < (l0_7.length : Int) then ((P36_ ((rd_T26 l0_7 1).f0) ((rd_T26 l0_7 1).f1) ((rd_T26 l0_7 1).f2.f0) ((rd_T26 l0_7 1).f2.f1) ((rd_T26 l0_7 1).f2.f2) ((rd_T26 l0_7 1).f3) ((rd_T26 l0_7 1).f4) ((rd_T26 l0_7 1).f5) (wrap64 (t115 + 1))).bind fun t119 => (if (((t117 ++ (⟨#[32]⟩ : ByteArray)) ++ a0_1) ++ (⟨#[32]⟩ : ByteArray)).size + t119.size ≤ 9223372036854775807 then (some ((((t117 ++ (⟨#[32]⟩ : ByteArray)) ++ a0_1) ++ (⟨#[32]⟩ : ByteArray)) ++ t119)) else (none))) else (none)) else (none)) else (none)) else (none))) else (none))) = some r := by rw [if_pos rfl] at H; exact H
                  clear H
                  have H := H1
                  clear H1
                  replace H := Option.bind_eq_some_iff.mp H
                  obtain ⟨t115, A280, H⟩ := H
                  replace H : (if 0 < (l0_7.length : Int) then ((P36_ ((rd_T26 l0_7 0).f0) ((rd_T26 l0_7 0).f1) ((rd_T26 l0_7 0).f2.f0) ((rd_T26 l0_7 0).f2.f1) ((rd_T26 l0_7 0).f2.f2) ((rd_T26 l0_7 0).f3) ((rd_T26 l0_7 0).f4) ((rd_T26 l0_7 0).f5) t115).bind fun t117 => (if t117.size + 1 ≤ 9223372036854775807 then (if (t117 ++ (⟨#[32]⟩ : ByteArray)).size + a0_1.size ≤ 9223372036854775807 then (if ((t117 ++ (⟨#[32]⟩ : ByteArray)) ++ a0_1).size + 1 ≤ 9223372036854775807 then (if 1 < (l0_7.length : Int) then ((P36_ ((rd_T26 l0_7 1).f0) ((rd_T26 l0_7 1).f1) ((rd_T26 l0_7 1).f2.f0) ((rd_T26 l0_7 1).f2.f1) ((rd_T26 l0_7 1).f2.f2) ((rd_T26 l0_7 1).f3) ((rd_T26 l0_7 1).f4) ((rd_T26 l0_7 1).f5) (wrap64 (t115 + 1))).bind fun t119 => (if (((t117 ++ (⟨#[32]⟩ : ByteArray)) ++ a0_1) ++ (⟨#[32]⟩ : ByteArray)).size + t119.size ≤ 9223372036854775807 then (some ((((t117 ++ (⟨#[32]⟩ : ByteArray)) ++ a0_1) ++ (⟨#[32]⟩ : ByteArray)) ++ t119)) else (none))) else (none)) else (none)) else (none)) else (none))) else (none)) = some r := H
                  have A28 := Aside0.mk A280
                  clear A280
                  by_cases c29 : 0 < (l0_7.length : Int)
                  · rw [if_pos c29] at H
                    have c29b0 : decide (0 < (l0_7.length : Int)) = true := decide_eq_true c29
                    have c29b1 : decide (0 < l0_7.length) = true := decide_eq_true (by omega)
                    clear c29
                    replace H := Option.bind_eq_some_iff.mp H
                    obtain ⟨t117, A300, H⟩ := H
                    replace H : (if t117.size + 1 ≤ 9223372036854775807 then (if (t117 ++ (⟨#[32]⟩ : ByteArray)).size + a0_1.size ≤ 9223372036854775807 then (if ((t117 ++ (⟨#[32]⟩ : ByteArray)) ++ a0_1).size + 1 ≤ 9223372036854775807 then (if 1 < (l0_7.length : Int) then ((P36_ ((rd_T26 l0_7 1).f0) ((rd_T26 l0_7 1).f1) ((rd_T26 l0_7 1).f2.f0) ((rd_T26 l0_7 1).f2.f1) ((rd_T26 l0_7 1).f2.f2) ((rd_T26 l0_7 1).f3) ((rd_T26 l0_7 1).f4) ((rd_T26 l0_7 1).f5) (wrap64 (t115 + 1))).bind fun t119 => (if (((t117 ++ (⟨#[32]⟩ : ByteArray)) ++ a0_1) ++ (⟨#[32]⟩ : ByteArray)).size + t119.size ≤ 9223372036854775807 then (some ((((t117 ++ (⟨#[32]⟩ : ByteArray)) ++ a0_1) ++ (⟨#[32]⟩ : ByteArray)) ++ t119)) else (none))) else (none)) else (none)) else (none)) else (none)) = some r := H
                    have A30 := Aside0.mk A300
                    clear A300
                    by_cases c31 : t117.size + 1 ≤ 9223372036854775807
                    · rw [if_pos c31] at H
                      have c31b0 := eq_true c31
                      have c31b1 : decide (t117.size + 1 ≤ 9223372036854775807) = true := decide_eq_true c31
                      try have c31b2 : (9223372036854775807 < t117.size + 1) = False := eq_false (Nat.not_lt.2 c31)
                      by_cases c32 : (t117 ++ (⟨#[32]⟩ : ByteArray)).size + a0_1.size ≤ 9223372036854775807
                      · rw [if_pos c32] at H
                        have c32b0 := eq_true c32
                        have c32b1 : decide ((t117 ++ (⟨#[32]⟩ : ByteArray)).size + a0_1.size ≤ 9223372036854775807) = true := decide_eq_true c32
                        try have c32b2 : (9223372036854775807 < (t117 ++ (⟨#[32]⟩ : ByteArray)).size + a0_1.size) = False := eq_false (Nat.not_lt.2 c32)
                        try have c32b3 : (9223372036854775807 < t117.size + 1 + a0_1.size) = False := eq_false (Nat.not_lt.2 (by have h_ := c32; simp only [ByteArray.size_append] at h_; exact h_))
                        by_cases c33 : ((t117 ++ (⟨#[32]⟩ : ByteArray)) ++ a0_1).size + 1 ≤ 9223372036854775807
                        · rw [if_pos c33] at H
                          have c33b0 := eq_true c33
                          have c33b1 : decide (((t117 ++ (⟨#[32]⟩ : ByteArray)) ++ a0_1).size + 1 ≤ 9223372036854775807) = true := decide_eq_true c33
                          try have c33b2 : (9223372036854775807 < ((t117 ++ (⟨#[32]⟩ : ByteArray)) ++ a0_1).size + 1) = False := eq_false (Nat.not_lt.2 c33)
                          try have c33b3 : (9223372036854775807 < t117.size + 1 + a0_1.size + 1) = False := eq_false (Nat.not_lt.2 (by have h_ := c33; simp only [ByteArray.size_append] at h_; exact h_))
                          by_cases c34 : 1 < (l0_7.length : Int)
                          · rw [if_pos c34] at H
                            have c34b0 : decide (1 < (l0_7.length : Int)) = true := decide_eq_true c34
                            have c34b1 : decide (1 < l0_7.length) = true := decide_eq_true (by omega)
                            clear c34
                            replace H := Option.bind_eq_some_iff.mp H
                            obtain ⟨t119, A350, H⟩ := H
                            replace H : (if (((t117 ++ (⟨#[32]⟩ : ByteArray)) ++ a0_1) ++ (⟨#[32]⟩ : ByteArray)).size + t119.size ≤ 9223372036854775807 then (some ((((t117 ++ (⟨#[32]⟩ : ByteArray)) ++ a0_1) ++ (⟨#[32]⟩ : ByteArray)) ++ t119)) else (none)) = some r := H
                            have A35 := Aside0.mk A350
                            clear A350
                            by_cases c36 : (((t117 ++ (⟨#[32]⟩ : ByteArray)) ++ a0_1) ++ (⟨#[32]⟩ : ByteArray)).size + t119.size ≤ 9223372036854775807
                            · rw [if_pos c36] at H
                              have c36b0 := eq_true c36
                              have c36b1 : decide ((((t117 ++ (⟨#[32]⟩ : ByteArray)) ++ a0_1) ++ (⟨#[32]⟩ : ByteArray)).size + t119.size ≤ 9223372036854775807) = true := decide_eq_true c36
                              try have c36b2 : (9223372036854775807 < (((t117 ++ (⟨#[32]⟩ : ByteArray)) ++ a0_1) ++ (⟨#[32]⟩ : ByteArray)).size + t119.size) = False := eq_false (Nat.not_lt.2 c36)
                              try have c36b3 : (9223372036854775807 < t117.size + 1 + a0_1.size + 1 + t119.size) = False := eq_false (Nat.not_lt.2 (by have h_ := c36; simp only [ByteArray.size_append] at h_; exact h_))
                              obtain rfl := Option.some.inj H
                              have hcz37_0 : wc.cell? ⟨gb112, 0, none⟩ = some (.int .i64 a0_0) := (blk_cell BK112.out 0).trans rfl
                              have hcz37_1 : wc.cell? ⟨gb112, 1, none⟩ = some (.string a0_1) := (blk_cell BK112.out 1).trans rfl
                              have hcz37_2 : wc.cell? ⟨gb112, 2, none⟩ = some (.int .i64 a0_2) := (blk_cell BK112.out 2).trans rfl
                              have hcz37_3 : wc.cell? ⟨gb112, 3, none⟩ = some (.int .i64 a0_3) := (blk_cell BK112.out 3).trans rfl
                              have hcz37_4 : wc.cell? ⟨gb112, 4, none⟩ = some (.string a0_4) := (blk_cell BK112.out 4).trans rfl
                              have hcz37_5 : wc.cell? ⟨gb112, 5, none⟩ = some (.string a0_5) := (blk_cell BK112.out 5).trans rfl
                              have hcz37_6 : wc.cell? ⟨gb112, 6, none⟩ = some (.string a0_6) := (blk_cell BK112.out 6).trans rfl
                              have hcz37_7 : wc.cell? ⟨gb112, 7, none⟩ = some (.slice A0_7 l0_7.length c0_7) := (blk_cell BK112.out 7).trans rfl
                              have hfz37_0 := blk_frozen BK112.out 0
                              have hfz37_1 := blk_frozen BK112.out 1
                              have hfz37_2 := blk_frozen BK112.out 2
                              have hfz37_3 := blk_frozen BK112.out 3
                              have hfz37_4 := blk_frozen BK112.out 4
                              have hfz37_5 := blk_frozen BK112.out 5
                              have hfz37_6 := blk_frozen BK112.out 6
                              have hfz37_7 := blk_frozen BK112.out 7
                              try go_wp2_with (first | ((with_reducible refine gate_callee (f := 19) rfl ?_); refine goesL_ (some 51) rfl rfl Tryd.func19 (by kernel_rfl) rfl #[.string a0_1] rfl (by (try simp only [List.map_toArray, List.map_cons, List.map_nil]); first | done | rfl | (simp only [List.length_drop, List.length_take]; rfl)) ?_; (with_reducible refine (expr_Level.calls kj22 a0_1 t115 _ A28.out).mono ?_); rintro e w' ⟨rfl, ⟨nd, rfl⟩⟩; refine ⟨_, rfl, ?_⟩))
                              (try (rw [drewN_self wc]; generalize hq_ : World.drewN wc _ = wc; have n0_ : Aside0 (wc.heap[gb112]? = some (.cells #[.int .i64 a0_0, .string a0_1, .int .i64 a0_2, .int .i64 a0_3, .string a0_4, .string a0_5, .string a0_6, .slice A0_7 l0_7.length c0_7] 26 (0, 0))) := ⟨by rw [← hq_]; exact (by (with_reducible repeat (first | refine blk_drewN ?_ _ | refine blk_drew ?_ | refine blk_alloc ?_ _)); exact BK112.out)⟩; have n1_ : Aside0 (Below w.heap.size w wc) := ⟨by rw [← hq_]; exact (by repeat (first | (with_reducible first | exact HB.out | apply below_alloc | apply pw_below_drewN | apply below_drew1 | refine below_set ?_ GE112.out) | exact HB.out))⟩; clear BK112 HB hq_; have BK112 := n0_; have HB := n1_; clear n0_ n1_))
                              have n0_ := Aside0.mk (blk_drew BK112.out)
                              have n1_ := Aside0.mk (below_drew1 HB.out)
                              clear BK112
                              clear HB
                              have BK112 := n0_
                              have HB := n1_
                              clear n0_ n1_
                              have p116 : 0 ≤ (0 : Int) := (by omega)
                              have q116 : 0 < (l0_7.length : Int) := of_decide_eq_true (by first | (with_reducible assumption) | assumption)
                              obtain ⟨ad116, A116_7, c116_7, e116, hx116_0, hx116_1, hx116_2, hx116_3, hx116_4, hx116_5, hx116_6, hx116_7, hl116_7, hi116_7⟩ := at_T26 HR0_7.out 0 p116 q116
                              have hw116_7 := hx116_7
                              (try rw [show ((0 : Int)).toNat = 0 from rfl] at hw116_7)
                              (try rw [show 0 * 8 = 0 from rfl] at hw116_7)
                              (try rw [Addr.add_zero'] at hw116_7)
                              have hw116_6 := hx116_6
                              (try rw [show ((0 : Int)).toNat = 0 from rfl] at hw116_6)
                              (try rw [show 0 * 8 = 0 from rfl] at hw116_6)
                              (try rw [Addr.add_zero'] at hw116_6)
                              have hw116_5 := hx116_5
                              (try rw [show ((0 : Int)).toNat = 0 from rfl] at hw116_5)
                              (try rw [show 0 * 8 = 0 from rfl] at hw116_5)
                              (try rw [Addr.add_zero'] at hw116_5)
                              have hw116_4 := hx116_4
                              (try rw [show ((0 : Int)).toNat = 0 from rfl] at hw116_4)
                              (try rw [show 0 * 8 = 0 from rfl] at hw116_4)
                              (try rw [Addr.add_zero'] at hw116_4)
                              have hw116_3 := hx116_3
                              (try rw [show ((0 : Int)).toNat = 0 from rfl] at hw116_3)
                              (try rw [show 0 * 8 = 0 from rfl] at hw116_3)
                              (try rw [Addr.add_zero'] at hw116_3)
                              have hw116_2 := hx116_2
                              (try rw [show ((0 : Int)).toNat = 0 from rfl] at hw116_2)
                              (try rw [show 0 * 8 = 0 from rfl] at hw116_2)
                              (try rw [Addr.add_zero'] at hw116_2)
                              have hw116_1 := hx116_1
                              (try rw [show ((0 : Int)).toNat = 0 from rfl] at hw116_1)
                              (try rw [show 0 * 8 = 0 from rfl] at hw116_1)
                              (try rw [Addr.add_zero'] at hw116_1)
                              have hw116_0 := hx116_0
                              (try rw [show ((0 : Int)).toNat = 0 from rfl] at hw116_0)
                              (try rw [show 0 * 8 = 0 from rfl] at hw116_0)
                              (try rw [Addr.add_zero'] at hw116_0)
                              cases e116
                              have qi116 : (0 < l0_7.length) = True := eq_true (by omega)
                              (try rw [show ((0 : Int)).toNat = 0 from rfl] at hx116_0)
                              (try rw [show 0 * 8 = 0 from rfl] at hx116_0)
                              (try rw [Addr.add_zero'] at hx116_0)
                              (try rw [show ((0 : Int)).toNat = 0 from rfl] at hx116_1)
                              (try rw [show 0 * 8 = 0 from rfl] at hx116_1)
                              (try rw [Addr.add_zero'] at hx116_1)
                              (try rw [show ((0 : Int)).toNat = 0 from rfl] at hx116_2)
                              (try rw [show 0 * 8 = 0 from rfl] at hx116_2)
                              (try rw [Addr.add_zero'] at hx116_2)
                              (try rw [show ((0 : Int)).toNat = 0 from rfl] at hx116_3)
                              (try rw [show 0 * 8 = 0 from rfl] at hx116_3)
                              (try rw [Addr.add_zero'] at hx116_3)
                              (try rw [show ((0 : Int)).toNat = 0 from rfl] at hx116_4)
                              (try rw [show 0 * 8 = 0 from rfl] at hx116_4)
                              (try rw [Addr.add_zero'] at hx116_4)
                              (try rw [show ((0 : Int)).toNat = 0 from rfl] at hx116_5)
                              (try rw [show 0 * 8 = 0 from rfl] at hx116_5)
                              (try rw [Addr.add_zero'] at hx116_5)
                              (try rw [show ((0 : Int)).toNat = 0 from rfl] at hx116_6)
                              (try rw [show 0 * 8 = 0 from rfl] at hx116_6)
                              (try rw [Addr.add_zero'] at hx116_6)
                              (try rw [show ((0 : Int)).toNat = 0 from rfl] at hx116_7)
                              (try rw [show 0 * 8 = 0 from rfl] at hx116_7)
                              (try rw [Addr.add_zero'] at hx116_7)
                              replace hx116_0 := (HB.out.cell (World.block_lt_of_cell? w _ hx116_0)).trans hx116_0
                              replace hx116_1 := (HB.out.cell (World.block_lt_of_cell? w _ hx116_1)).trans hx116_1
                              replace hx116_2 := (HB.out.cell (World.block_lt_of_cell? w _ hx116_2)).trans hx116_2
                              replace hx116_3 := (HB.out.cell (World.block_lt_of_cell? w _ hx116_3)).trans hx116_3
                              replace hx116_4 := (HB.out.cell (World.block_lt_of_cell? w _ hx116_4)).trans hx116_4
                              replace hx116_5 := (HB.out.cell (World.block_lt_of_cell? w _ hx116_5)).trans hx116_5
                              replace hx116_6 := (HB.out.cell (World.block_lt_of_cell? w _ hx116_6)).trans hx116_6
                              replace hx116_7 := (HB.out.cell (World.block_lt_of_cell? w _ hx116_7)).trans hx116_7
                              have HR116_7 := Aside0.mk hi116_7
                              have HC116_7 := Aside0.mk hl116_7
                              clear hi116_7 hl116_7
                              replace p116 := eq_true p116
                              replace q116 := eq_true q116
                              have p118 : 0 ≤ (1 : Int) := (by omega)
                              have q118 : 1 < (l0_7.length : Int) := of_decide_eq_true (by first | (with_reducible assumption) | assumption)
                              obtain ⟨ad118, A118_7, c118_7, e118, hx118_0, hx118_1, hx118_2, hx118_3, hx118_4, hx118_5, hx118_6, hx118_7, hl118_7, hi118_7⟩ := at_T26 HR0_7.out 1 p118 q118
                              have hw118_7 := hx118_7
                              (try rw [show ((1 : Int)).toNat = 1 from rfl] at hw118_7)
                              (try rw [show 1 * 8 = 8 from rfl] at hw118_7)
                              (try simp only [Nat.reduceMul, Nat.reduceEqDiff, Go.Addr.add, ↓reduceIte] at hw118_7)
                              have hw118_6 := hx118_6
                              (try rw [show ((1 : Int)).toNat = 1 from rfl] at hw118_6)
                              (try rw [show 1 * 8 = 8 from rfl] at hw118_6)
                              (try simp only [Nat.reduceMul, Nat.reduceEqDiff, Go.Addr.add, ↓reduceIte] at hw118_6)
                              have hw118_5 := hx118_5
                              (try rw [show ((1 : Int)).toNat = 1 from rfl] at hw118_5)
                              (try rw [show 1 * 8 = 8 from rfl] at hw118_5)
                              (try simp only [Nat.reduceMul, Nat.reduceEqDiff, Go.Addr.add, ↓reduceIte] at hw118_5)
                              have hw118_4 := hx118_4
                              (try rw [show ((1 : Int)).toNat = 1 from rfl] at hw118_4)
                              (try rw [show 1 * 8 = 8 from rfl] at hw118_4)
                              (try simp only [Nat.reduceMul, Nat.reduceEqDiff, Go.Addr.add, ↓reduceIte] at hw118_4)
                              have hw118_3 := hx118_3
                              (try rw [show ((1 : Int)).toNat = 1 from rfl] at hw118_3)
                              (try rw [show 1 * 8 = 8 from rfl] at hw118_3)
                              (try simp only [Nat.reduceMul, Nat.reduceEqDiff, Go.Addr.add, ↓reduceIte] at hw118_3)
                              have hw118_2 := hx118_2
                              (try rw [show ((1 : Int)).toNat = 1 from rfl] at hw118_2)
                              (try rw [show 1 * 8 = 8 from rfl] at hw118_2)
                              (try simp only [Nat.reduceMul, Nat.reduceEqDiff, Go.Addr.add, ↓reduceIte] at hw118_2)
                              have hw118_1 := hx118_1
                              (try rw [show ((1 : Int)).toNat = 1 from rfl] at hw118_1)
                              (try rw [show 1 * 8 = 8 from rfl] at hw118_1)
                              (try simp only [Nat.reduceMul, Nat.reduceEqDiff, Go.Addr.add, ↓reduceIte] at hw118_1)
                              have hw118_0 := hx118_0
                              (try rw [show ((1 : Int)).toNat = 1 from rfl] at hw118_0)
                              (try rw [show 1 * 8 = 8 from rfl] at hw118_0)
                              (try simp only [Nat.reduceMul, Nat.reduceEqDiff, Go.Addr.add, ↓reduceIte] at hw118_0)
                              obtain rfl : ad116 = ad118 := (by injection e118)
                              (try simp only [show (1 : Int).toNat = 1 from rfl, Nat.reduceMul, Nat.reduceEqDiff, Go.Addr.add, ↓reduceIte] at hx118_0)
                              (try simp only [show (1 : Int).toNat = 1 from rfl, Nat.reduceMul, Nat.reduceEqDiff, Go.Addr.add, ↓reduceIte] at hx118_1)
                              (try simp only [show (1 : Int).toNat = 1 from rfl, Nat.reduceMul, Nat.reduceEqDiff, Go.Addr.add, ↓reduceIte] at hx118_2)
                              (try simp only [show (1 : Int).toNat = 1 from rfl, Nat.reduceMul, Nat.reduceEqDiff, Go.Addr.add, ↓reduceIte] at hx118_3)
                              (try simp only [show (1 : Int).toNat = 1 from rfl, Nat.reduceMul, Nat.reduceEqDiff, Go.Addr.add, ↓reduceIte] at hx118_4)
                              (try simp only [show (1 : Int).toNat = 1 from rfl, Nat.reduceMul, Nat.reduceEqDiff, Go.Addr.add, ↓reduceIte] at hx118_5)
                              (try simp only [show (1 : Int).toNat = 1 from rfl, Nat.reduceMul, Nat.reduceEqDiff, Go.Addr.add, ↓reduceIte] at hx118_6)
                              (try simp only [show (1 : Int).toNat = 1 from rfl, Nat.reduceMul, Nat.reduceEqDiff, Go.Addr.add, ↓reduceIte] at hx118_7)
                              have qi118 : (1 < l0_7.length) = True := eq_true (by omega)
                              (try rw [show ((1 : Int)).toNat = 1 from rfl] at hx118_0)
                              (try rw [show 1 * 8 = 8 from rfl] at hx118_0)
                              (try rw [show ((1 : Int)).toNat = 1 from rfl] at hx118_1)
                              (try rw [show 1 * 8 = 8 from rfl] at hx118_1)
                              (try rw [show ((1 : Int)).toNat = 1 from rfl] at hx118_2)
                              (try rw [show 1 * 8 = 8 from rfl] at hx118_2)
                              (try rw [show ((1 : Int)).toNat = 1 from rfl] at hx118_3)
                              (try rw [show 1 * 8 = 8 from rfl] at hx118_3)
                              (try rw [show ((1 : Int)).toNat = 1 from rfl] at hx118_4)
                              (try rw [show 1 * 8 = 8 from rfl] at hx118_4)
                              (try rw [show ((1 : Int)).toNat = 1 from rfl] at hx118_5)
                              (try rw [show 1 * 8 = 8 from rfl] at hx118_5)
                              (try rw [show ((1 : Int)).toNat = 1 from rfl] at hx118_6)
                              (try rw [show 1 * 8 = 8 from rfl] at hx118_6)
                              (try rw [show ((1 : Int)).toNat = 1 from rfl] at hx118_7)
                              (try rw [show 1 * 8 = 8 from rfl] at hx118_7)
                              replace hx118_0 := (HB.out.cell (World.block_lt_of_cell? w _ hx118_0)).trans hx118_0
                              replace hx118_1 := (HB.out.cell (World.block_lt_of_cell? w _ hx118_1)).trans hx118_1
                              replace hx118_2 := (HB.out.cell (World.block_lt_of_cell? w _ hx118_2)).trans hx118_2
                              replace hx118_3 := (HB.out.cell (World.block_lt_of_cell? w _ hx118_3)).trans hx118_3
                              replace hx118_4 := (HB.out.cell (World.block_lt_of_cell? w _ hx118_4)).trans hx118_4
                              replace hx118_5 := (HB.out.cell (World.block_lt_of_cell? w _ hx118_5)).trans hx118_5
                              replace hx118_6 := (HB.out.cell (World.block_lt_of_cell? w _ hx118_6)).trans hx118_6
                              replace hx118_7 := (HB.out.cell (World.block_lt_of_cell? w _ hx118_7)).trans hx118_7
                              have HR118_7 := Aside0.mk hi118_7
                              have HC118_7 := Aside0.mk hl118_7
                              clear hi118_7 hl118_7
                              replace p118 := eq_true p118
                              replace q118 := eq_true q118
                              refine start_ (n := 20) (S := fun w' => w'.cell? ⟨gb112, 0, none⟩ = some (.int .i64 a0_0) ∧ w'.cell? ⟨gb112, 1, none⟩ = some (.string a0_1) ∧ w'.cell? ⟨gb112, 2, none⟩ = some (.int .i64 a0_2) ∧ w'.cell? ⟨gb112, 3, none⟩ = some (.int .i64 a0_3) ∧ w'.cell? ⟨gb112, 4, none⟩ = some (.string a0_4) ∧ w'.cell? ⟨gb112, 5, none⟩ = some (.string a0_5) ∧ w'.cell? ⟨gb112, 6, none⟩ = some (.string a0_6) ∧ w'.cell? ⟨gb112, 7, none⟩ = some (.slice (some ad116) l0_7.length c0_7) ∧ w'.cell? ad116 = some (.int .i64 ((rd_T26 l0_7 0).f0)) ∧ w'.cell? ⟨ad116.block, ad116.off + 1, none⟩ = some (.string ((rd_T26 l0_7 0).f1)) ∧ w'.cell? ⟨ad116.block, ad116.off + 2, none⟩ = some (.int .i64 ((rd_T26 l0_7 0).f2.f0)) ∧ w'.cell? ⟨ad116.block, ad116.off + 3, none⟩ = some (.int .i64 ((rd_T26 l0_7 0).f2.f1)) ∧ w'.cell? ⟨ad116.block, ad116.off + 4, none⟩ = some (.string ((rd_T26 l0_7 0).f2.f2)) ∧ w'.cell? ⟨ad116.block, ad116.off + 5, none⟩ = some (.string ((rd_T26 l0_7 0).f3)) ∧ w'.cell? ⟨ad116.block, ad116.off + 6, none⟩ = some (.string ((rd_T26 l0_7 0).f4)) ∧ w'.cell? ⟨ad116.block, ad116.off + 7, none⟩ = some (.slice A116_7 ((rd_T26 l0_7 0).f5).length c116_7) ∧ w'.cell? ⟨ad116.block, ad116.off + 8, none⟩ = some (.int .i64 ((rd_T26 l0_7 1).f0)) ∧ w'.cell? ⟨ad116.block, ad116.off + 8 + 1, none⟩ = some (.string ((rd_T26 l0_7 1).f1)) ∧ w'.cell? ⟨ad116.block, ad116.off + 8 + 2, none⟩ = some (.int .i64 ((rd_T26 l0_7 1).f2.f0)) ∧ w'.cell? ⟨ad116.block, ad116.off + 8 + 3, none⟩ = some (.int .i64 ((rd_T26 l0_7 1).f2.f1)) ∧ w'.cell? ⟨ad116.block, ad116.off + 8 + 4, none⟩ = some (.string ((rd_T26 l0_7 1).f2.f2)) ∧ w'.cell? ⟨ad116.block, ad116.off + 8 + 5, none⟩ = some (.string ((rd_T26 l0_7 1).f3)) ∧ w'.cell? ⟨ad116.block, ad116.off + 8 + 6, none⟩ = some (.string ((rd_T26 l0_7 1).f4)) ∧ w'.cell? ⟨ad116.block, ad116.off + 8 + 7, none⟩ = some (.slice A118_7 ((rd_T26 l0_7 1).f5).length c118_7)) (ds := []) #[false, false, false, false, false, false, false, false, false, false, false, false, false, false, false, false, false, false, false, false] (by kernel_rfl) rfl rfl ⟨(blk_cell BK112.out 0).trans rfl, (blk_cell BK112.out 1).trans rfl, (blk_cell BK112.out 2).trans rfl, (blk_cell BK112.out 3).trans rfl, (blk_cell BK112.out 4).trans rfl, (blk_cell BK112.out 5).trans rfl, (blk_cell BK112.out 6).trans rfl, (blk_cell BK112.out 7).trans rfl, ((HB.out.cell (World.block_lt_of_cell? w _ hw116_0)).trans hw116_0), ((HB.out.cell (World.block_lt_of_cell? w _ hw116_1)).trans hw116_1), ((HB.out.cell (World.block_lt_of_cell? w _ hw116_2)).trans hw116_2), ((HB.out.cell (World.block_lt_of_cell? w _ hw116_3)).trans hw116_3), ((HB.out.cell (World.block_lt_of_cell? w _ hw116_4)).trans hw116_4), ((HB.out.cell (World.block_lt_of_cell? w _ hw116_5)).trans hw116_5), ((HB.out.cell (World.block_lt_of_cell? w _ hw116_6)).trans hw116_6), ((HB.out.cell (World.block_lt_of_cell? w _ hw116_7)).trans hw116_7), ((HB.out.cell (World.block_lt_of_cell? w _ hw118_0)).trans hw118_0), ((HB.out.cell (World.block_lt_of_cell? w _ hw118_1)).trans hw118_1), ((HB.out.cell (World.block_lt_of_cell? w _ hw118_2)).trans hw118_2), ((HB.out.cell (World.block_lt_of_cell? w _ hw118_3)).trans hw118_3), ((HB.out.cell (World.block_lt_of_cell? w _ hw118_4)).trans hw118_4), ((HB.out.cell (World.block_lt_of_cell? w _ hw118_5)).trans hw118_5), ((HB.out.cell (World.block_lt_of_cell? w _ hw118_6)).trans hw118_6), ((HB.out.cell (World.block_lt_of_cell? w _ hw118_7)).trans hw118_7)⟩ (fun hHeld => ?_); refine with_tabW expr_Put.tab9 expr_Put.bits9 (fun HT_ HW_ => ?_)
                              generalize wc.drew = w38 at BK112 HB HR116_7 HR118_7 hx116_0 hx116_1 hx116_2 hx116_3 hx116_4 hx116_5 hx116_6 hx116_7 hx118_0 hx118_1 hx118_2 hx118_3 hx118_4 hx118_5 hx118_6 hx118_7 hHeld ⊢
                              refine pure_ (i := 0) (N := some 52) (v := ?_) (a' := ?_) #[true, false, false, false, false, false, false, false, false, false, false, false, false, false, false, false, false, false, false, false] rfl rfl (any_of HT_.out (by kernel_rfl)) (fun _ _ _ h => h) (Or.inl ⟨by rfl, ?_⟩) ?_ ?_
                              rotate_left
                              · intro w'
                                go_simp
                                with_reducible rfl
                              rotate_left
                              · simp only [Act.put, List.setIfInBounds_toArray, List.set_cons_zero, List.set_cons_succ, i64_w, i32_w]
                                rfl
                              refine pure_ (i := 4) (N := some 56) (v := ?_) (a' := ?_) #[true, false, false, false, true, false, false, false, false, false, false, false, false, false, false, false, false, false, false, false] rfl rfl (any_of HT_.out (by kernel_rfl)) (fun _ _ _ h => h) (Or.inl ⟨by rfl, ?_⟩) ?_ ?_
                              rotate_left
                              · intro w'
                                go_simp
                                with_reducible rfl
                              rotate_left
                              · simp only [Act.put, List.setIfInBounds_toArray, List.set_cons_zero, List.set_cons_succ, i64_w, i32_w]
                                rfl
                              refine pure_ (i := 7) (N := some 59) (v := ?_) (a' := ?_) #[true, false, false, false, true, false, false, true, false, false, false, false, false, false, false, false, false, false, false, false] rfl rfl (any_of HT_.out (by kernel_rfl)) (fun _ _ _ h => h) (Or.inl ⟨by rfl, ?_⟩) ?_ ?_
                              rotate_left
                              · intro w'
                                go_simp
                                with_reducible rfl
                              rotate_left
                              · simp only [Act.put, List.setIfInBounds_toArray, List.set_cons_zero, List.set_cons_succ, i64_w, i32_w]
                                rfl
                              refine pure_ (i := 11) (N := some 63) (v := ?_) (a' := ?_) #[true, false, false, false, true, false, false, true, false, false, false, true, false, false, false, false, false, false, false, false] rfl rfl (any_of HT_.out (by kernel_rfl)) (fun _ _ _ h => h) (Or.inl ⟨by rfl, ?_⟩) ?_ ?_
                              rotate_left
                              · intro w'
                                go_simp
                                with_reducible rfl
                              rotate_left
                              · simp only [Act.put, List.setIfInBounds_toArray, List.set_cons_zero, List.set_cons_succ, i64_w, i32_w]
                                rfl
                              refine pure_ (i := 15) (N := some 67) (v := ?_) (a' := ?_) #[true, false, false, false, true, false, false, true, false, false, false, true, false, false, false, true, false, false, false, false] rfl rfl (any_of HT_.out (by kernel_rfl)) (fun _ _ _ h => h) (Or.inl ⟨by rfl, ?_⟩) ?_ ?_
                              rotate_left
                              · intro w'
                                go_simp
                                with_reducible rfl
                              rotate_left
                              · simp only [Act.put, List.setIfInBounds_toArray, List.set_cons_zero, List.set_cons_succ, i64_w, i32_w]
                                rfl
                              refine pure_ (i := 16) (N := some 68) (v := ?_) (a' := ?_) #[true, false, false, false, true, false, false, true, false, false, false, true, false, false, false, true, true, false, false, false] rfl rfl (any_of HT_.out (by kernel_rfl)) (fun _ _ _ h => h) (Or.inl ⟨by rfl, ?_⟩) ?_ ?_
                              rotate_left
                              · intro w'
                                go_simp
                                with_reducible rfl
                              rotate_left
                              · simp only [Act.put, List.setIfInBounds_toArray, List.set_cons_zero, List.set_cons_succ, i64_w, i32_w]
                                rfl
                              refine take_ (i := 1) (N := some 53) (v := ?_) (a' := ?_) #[true, true, false, false, true, false, false, true, false, false, false, true, false, false, false, true, true, false, false, false] rfl rfl (take_ofW HT_.out HW_.out (by kernel_rfl)) (fun _ _ _ h => h) (Or.inl ⟨by rfl, ?_⟩) hHeld ?_ ?_
                              rotate_left
                              · rintro w' ⟨s0, s1, s2, s3, s4, s5, s6, s7, s8, s9, s10, s11, s12, s13, s14, s15, s16, s17, s18, s19, s20, s21, s22, s23⟩
                                go_simp
                                with_reducible rfl
                              rotate_left
                              · simp only [Act.put, List.setIfInBounds_toArray, List.set_cons_zero, List.set_cons_succ, i64_w, i32_w]
                                rfl
                              refine pure_ (i := 2) (N := some 54) (v := ?_) (a' := ?_) #[true, true, true, false, true, false, false, true, false, false, false, true, false, false, false, true, true, false, false, false] rfl rfl (any_of HT_.out (by kernel_rfl)) (fun _ _ _ h => h) (Or.inl ⟨by rfl, ?_⟩) ?_ ?_
                              rotate_left
                              · intro w'
                                go_simp
                                with_reducible rfl
                              rotate_left
                              · simp only [Act.put, List.setIfInBounds_toArray, List.set_cons_zero, List.set_cons_succ, i64_w, i32_w]
                                rfl
                              refine take_ (i := 3) (N := some 55) (v := ?_) (a' := ?_) #[true, true, true, true, true, false, false, true, false, false, false, true, false, false, false, true, true, false, false, false] rfl rfl (take_ofW HT_.out HW_.out (by kernel_rfl)) (fun _ _ _ h => h) (Or.inl ⟨by rfl, ?_⟩) hHeld ?_ ?_
                              rotate_left
                              · rintro w' ⟨s0, s1, s2, s3, s4, s5, s6, s7, s8, s9, s10, s11, s12, s13, s14, s15, s16, s17, s18, s19, s20, s21, s22, s23⟩
                                go_simp
                                with_reducible rfl
                              rotate_left
                              · simp only [Act.put, List.setIfInBounds_toArray, List.set_cons_zero, List.set_cons_succ, i64_w, i32_w]
                                rfl
                              refine take_ (i := 8) (N := some 60) (v := ?_) (a' := ?_) #[true, true, true, true, true, false, false, true, true, false, false, true, false, false, false, true, true, false, false, false] rfl rfl (take_ofW HT_.out HW_.out (by kernel_rfl)) (fun _ _ _ h => h) (Or.inl ⟨by rfl, ?_⟩) hHeld ?_ ?_
                              rotate_left
                              · rintro w' ⟨s0, s1, s2, s3, s4, s5, s6, s7, s8, s9, s10, s11, s12, s13, s14, s15, s16, s17, s18, s19, s20, s21, s22, s23⟩
                                go_simp
                                with_reducible rfl
                              rotate_left
                              · simp only [Act.put, List.setIfInBounds_toArray, List.set_cons_zero, List.set_cons_succ, i64_w, i32_w]
                                rfl
                              refine take_ (i := 12) (N := some 64) (v := ?_) (a' := ?_) #[true, true, true, true, true, false, false, true, true, false, false, true, true, false, false, true, true, false, false, false] rfl rfl (take_ofW HT_.out HW_.out (by kernel_rfl)) (fun _ _ _ h => h) (Or.inl ⟨by rfl, ?_⟩) hHeld ?_ ?_
                              rotate_left
                              · rintro w' ⟨s0, s1, s2, s3, s4, s5, s6, s7, s8, s9, s10, s11, s12, s13, s14, s15, s16, s17, s18, s19, s20, s21, s22, s23⟩
                                go_simp
                                with_reducible rfl
                              rotate_left
                              · simp only [Act.put, List.setIfInBounds_toArray, List.set_cons_zero, List.set_cons_succ, i64_w, i32_w]
                                rfl
                              refine pure_ (i := 13) (N := some 65) (v := ?_) (a' := ?_) #[true, true, true, true, true, false, false, true, true, false, false, true, true, true, false, true, true, false, false, false] rfl rfl (any_of HT_.out (by kernel_rfl)) (fun _ _ _ h => h) (Or.inl ⟨by rfl, ?_⟩) ?_ ?_
                              rotate_left
                              · intro w'
                                go_simp
                                with_reducible rfl
                              rotate_left
                              · simp only [Act.put, List.setIfInBounds_toArray, List.set_cons_zero, List.set_cons_succ, i64_w, i32_w]
                                rfl
                              refine take_ (i := 14) (N := some 66) (v := ?_) (a' := ?_) #[true, true, true, true, true, false, false, true, true, false, false, true, true, true, true, true, true, false, false, false] rfl rfl (take_ofW HT_.out HW_.out (by kernel_rfl)) (fun _ _ _ h => h) (Or.inl ⟨by rfl, ?_⟩) hHeld ?_ ?_
                              rotate_left
                              · rintro w' ⟨s0, s1, s2, s3, s4, s5, s6, s7, s8, s9, s10, s11, s12, s13, s14, s15, s16, s17, s18, s19, s20, s21, s22, s23⟩
                                go_simp
                                with_reducible rfl
                              rotate_left
                              · simp only [Act.put, List.setIfInBounds_toArray, List.set_cons_zero, List.set_cons_succ, i64_w, i32_w]
                                rfl
                              refine one_ (i := 5) (N := some 57) #[true, true, true, true, true, true, false, true, true, false, false, true, true, true, true, true, true, false, false, false] rfl rfl (one_of HT_.out (by kernel_rfl)) (by decide) (fun K hK => ?_)
                              refine goes_ Tryd.func36 (by kernel_rfl) rfl #[.agg #[.int .i64 ((rd_T26 l0_7 0).f0), .string ((rd_T26 l0_7 0).f1), .int .i64 ((rd_T26 l0_7 0).f2.f0), .int .i64 ((rd_T26 l0_7 0).f2.f1), .string ((rd_T26 l0_7 0).f2.f2), .string ((rd_T26 l0_7 0).f3), .string ((rd_T26 l0_7 0).f4), .slice A116_7 ((rd_T26 l0_7 0).f5).length c116_7], .int .i64 t115] (by rfl) rfl rfl (by (try simp only [List.map_toArray, List.map_cons, List.map_nil]); first | done | rfl | (simp only [List.length_drop, List.length_take]; rfl)) ?_
                              with_reducible refine (hP36_ ((rd_T26 l0_7 0).f0) ((rd_T26 l0_7 0).f1) ((rd_T26 l0_7 0).f2.f0) ((rd_T26 l0_7 0).f2.f1) ((rd_T26 l0_7 0).f2.f2) ((rd_T26 l0_7 0).f3) ((rd_T26 l0_7 0).f4) _ _ ((rd_T26 l0_7 0).f5) t115 t117 _ ?side1 ?side2 ?side3 A30.out).mono ?_
                              (case side1 => repeat (first | exact (Kd.C_below HR116_7.out HB.out) | (with_reducible refine Kd.C_alloc ?_ _) | (with_reducible refine Kd.C_drewN ?_ _) | (with_reducible refine Kd.C_drew ?_)))
                              (case side2 => exact HC116_7.out)
                              (case side3 => exact Glob.below HG.out (by repeat (first | (with_reducible first | exact HB.out | apply below_alloc | apply pw_below_drewN | apply below_drew1 | refine below_set ?_ GE112.out) | exact HB.out)))
                              rintro e w39 ⟨rfl, hb⟩
                              refine ⟨_, rfl, ?_⟩
                              have n0_ := Aside0.mk (blk_below (g := gb112) (o := .cells #[.int .i64 a0_0, .string a0_1, .int .i64 a0_2, .int .i64 a0_3, .string a0_4, .string a0_5, .string a0_6, .slice (some ad116) l0_7.length c0_7] 26 (0, 0)) (by (with_reducible repeat (first | refine blk_drewN ?_ _ | refine blk_drew ?_ | refine blk_alloc ?_ _)); exact BK112.out) hb)
                              have n1_ := Aside0.mk (below_step (by repeat (first | (with_reducible first | exact HB.out | apply below_alloc | apply pw_below_drewN | apply below_drew1 | refine below_set ?_ GE112.out) | exact HB.out)) hb)
                              clear BK112
                              clear HB
                              have BK112 := n0_
                              have HB := n1_
                              clear n0_ n1_
                              (try clear hb)
                              (try clear hb2)
                              (try clear hk)
                              (try clear hi)
                              refine hK.out _ _ ⟨(blk_cell BK112.out 0).trans rfl, (blk_cell BK112.out 1).trans rfl, (blk_cell BK112.out 2).trans rfl, (blk_cell BK112.out 3).trans rfl, (blk_cell BK112.out 4).trans rfl, (blk_cell BK112.out 5).trans rfl, (blk_cell BK112.out 6).trans rfl, (blk_cell BK112.out 7).trans rfl, ((HB.out.cell (World.block_lt_of_cell? w _ hw116_0)).trans hw116_0), ((HB.out.cell (World.block_lt_of_cell? w _ hw116_1)).trans hw116_1), ((HB.out.cell (World.block_lt_of_cell? w _ hw116_2)).trans hw116_2), ((HB.out.cell (World.block_lt_of_cell? w _ hw116_3)).trans hw116_3), ((HB.out.cell (World.block_lt_of_cell? w _ hw116_4)).trans hw116_4), ((HB.out.cell (World.block_lt_of_cell? w _ hw116_5)).trans hw116_5), ((HB.out.cell (World.block_lt_of_cell? w _ hw116_6)).trans hw116_6), ((HB.out.cell (World.block_lt_of_cell? w _ hw116_7)).trans hw116_7), ((HB.out.cell (World.block_lt_of_cell? w _ hw118_0)).trans hw118_0), ((HB.out.cell (World.block_lt_of_cell? w _ hw118_1)).trans hw118_1), ((HB.out.cell (World.block_lt_of_cell? w _ hw118_2)).trans hw118_2), ((HB.out.cell (World.block_lt_of_cell? w _ hw118_3)).trans hw118_3), ((HB.out.cell (World.block_lt_of_cell? w _ hw118_4)).trans hw118_4), ((HB.out.cell (World.block_lt_of_cell? w _ hw118_5)).trans hw118_5), ((HB.out.cell (World.block_lt_of_cell? w _ hw118_6)).trans hw118_6), ((HB.out.cell (World.block_lt_of_cell? w _ hw118_7)).trans hw118_7)⟩ (fun hHeld => ?_)
                              clear hK K
                              refine norm_ (a' := ?_) ?_ ?_
                              rotate_left
                              · show Act.put _ (some 57) _ = _
                                simp only [Act.put, List.setIfInBounds_toArray, List.set_cons_zero, List.set_cons_succ, i64_w, i32_w]
                                rfl
                              refine pure_ (i := 6) (N := some 58) (v := ?_) (a' := ?_) #[true, true, true, true, true, true, true, true, true, false, false, true, true, true, true, true, true, false, false, false] rfl rfl (any_of HT_.out (by kernel_rfl)) (fun _ _ _ h => h) (Or.inl ⟨by rfl, ?_⟩) ?_ ?_
                              rotate_left
                              · intro w'
                                go_simp
                                with_reducible rfl
                              rotate_left
                              · simp only [Act.put, List.setIfInBounds_toArray, List.set_cons_zero, List.set_cons_succ, i64_w, i32_w]
                                rfl
                              refine pure_ (i := 9) (N := some 61) (v := ?_) (a' := ?_) #[true, true, true, true, true, true, true, true, true, true, false, true, true, true, true, true, true, false, false, false] rfl rfl (any_of HT_.out (by kernel_rfl)) (fun _ _ _ h => h) (Or.inl ⟨by rfl, ?_⟩) ?_ ?_
                              rotate_left
                              · intro w'
                                go_simp
                                with_reducible rfl
                              rotate_left
                              · simp only [Act.put, List.setIfInBounds_toArray, List.set_cons_zero, List.set_cons_succ, i64_w, i32_w]
                                rfl
                              refine pure_ (i := 10) (N := some 62) (v := ?_) (a' := ?_) #[true, true, true, true, true, true, true, true, true, true, true, true, true, true, true, true, true, false, false, false] rfl rfl (any_of HT_.out (by kernel_rfl)) (fun _ _ _ h => h) (Or.inl ⟨by rfl, ?_⟩) ?_ ?_
                              rotate_left
                              · intro w'
                                go_simp
                                with_reducible rfl
                              rotate_left
                              · simp only [Act.put, List.setIfInBounds_toArray, List.set_cons_zero, List.set_cons_succ, i64_w, i32_w]
                                rfl
                              refine one_ (i := 17) (N := some 69) #[true, true, true, true, true, true, true, true, true, true, true, true, true, true, true, true, true, true, false, false] rfl rfl (one_of HT_.out (by kernel_rfl)) (by decide) (fun K hK => ?_)
                              refine goes_ Tryd.func36 (by kernel_rfl) rfl #[.agg #[.int .i64 ((rd_T26 l0_7 1).f0), .string ((rd_T26 l0_7 1).f1), .int .i64 ((rd_T26 l0_7 1).f2.f0), .int .i64 ((rd_T26 l0_7 1).f2.f1), .string ((rd_T26 l0_7 1).f2.f2), .string ((rd_T26 l0_7 1).f3), .string ((rd_T26 l0_7 1).f4), .slice A118_7 ((rd_T26 l0_7 1).f5).length c118_7], .int .i64 (wrap64 (t115 + 1))] (by rfl) rfl rfl (by (try simp only [List.map_toArray, List.map_cons, List.map_nil]); first | done | rfl | (simp only [List.length_drop, List.length_take]; rfl)) ?_
                              with_reducible refine (hP36_ ((rd_T26 l0_7 1).f0) ((rd_T26 l0_7 1).f1) ((rd_T26 l0_7 1).f2.f0) ((rd_T26 l0_7 1).f2.f1) ((rd_T26 l0_7 1).f2.f2) ((rd_T26 l0_7 1).f3) ((rd_T26 l0_7 1).f4) _ _ ((rd_T26 l0_7 1).f5) (wrap64 (t115 + 1)) t119 _ ?side1 ?side2 ?side3 A35.out).mono ?_
                              (case side1 => repeat (first | exact (Kd.C_below HR118_7.out HB.out) | (with_reducible refine Kd.C_alloc ?_ _) | (with_reducible refine Kd.C_drewN ?_ _) | (with_reducible refine Kd.C_drew ?_)))
                              (case side2 => exact HC118_7.out)
                              (case side3 => exact Glob.below HG.out (by repeat (first | (with_reducible first | exact HB.out | apply below_alloc | apply pw_below_drewN | apply below_drew1 | refine below_set ?_ GE112.out) | exact HB.out)))
                              rintro e w40 ⟨rfl, hb⟩
                              refine ⟨_, rfl, ?_⟩
                              have n0_ := Aside0.mk (blk_below (g := gb112) (o := .cells #[.int .i64 a0_0, .string a0_1, .int .i64 a0_2, .int .i64 a0_3, .string a0_4, .string a0_5, .string a0_6, .slice (some ad116) l0_7.length c0_7] 26 (0, 0)) (by (with_reducible repeat (first | refine blk_drewN ?_ _ | refine blk_drew ?_ | refine blk_alloc ?_ _)); exact BK112.out) hb)
                              have n1_ := Aside0.mk (below_step (by repeat (first | (with_reducible first | exact HB.out | apply below_alloc | apply pw_below_drewN | apply below_drew1 | refine below_set ?_ GE112.out) | exact HB.out)) hb)
                              clear BK112
                              clear HB
                              have BK112 := n0_
                              have HB := n1_
                              clear n0_ n1_
                              (try clear hb)
                              (try clear hb2)
                              (try clear hk)
                              (try clear hi)
                              refine hK.out _ _ ⟨(blk_cell BK112.out 0).trans rfl, (blk_cell BK112.out 1).trans rfl, (blk_cell BK112.out 2).trans rfl, (blk_cell BK112.out 3).trans rfl, (blk_cell BK112.out 4).trans rfl, (blk_cell BK112.out 5).trans rfl, (blk_cell BK112.out 6).trans rfl, (blk_cell BK112.out 7).trans rfl, ((HB.out.cell (World.block_lt_of_cell? w _ hw116_0)).trans hw116_0), ((HB.out.cell (World.block_lt_of_cell? w _ hw116_1)).trans hw116_1), ((HB.out.cell (World.block_lt_of_cell? w _ hw116_2)).trans hw116_2), ((HB.out.cell (World.block_lt_of_cell? w _ hw116_3)).trans hw116_3), ((HB.out.cell (World.block_lt_of_cell? w _ hw116_4)).trans hw116_4), ((HB.out.cell (World.block_lt_of_cell? w _ hw116_5)).trans hw116_5), ((HB.out.cell (World.block_lt_of_cell? w _ hw116_6)).trans hw116_6), ((HB.out.cell (World.block_lt_of_cell? w _ hw116_7)).trans hw116_7), ((HB.out.cell (World.block_lt_of_cell? w _ hw118_0)).trans hw118_0), ((HB.out.cell (World.block_lt_of_cell? w _ hw118_1)).trans hw118_1), ((HB.out.cell (World.block_lt_of_cell? w _ hw118_2)).trans hw118_2), ((HB.out.cell (World.block_lt_of_cell? w _ hw118_3)).trans hw118_3), ((HB.out.cell (World.block_lt_of_cell? w _ hw118_4)).trans hw118_4), ((HB.out.cell (World.block_lt_of_cell? w _ hw118_5)).trans hw118_5), ((HB.out.cell (World.block_lt_of_cell? w _ hw118_6)).trans hw118_6), ((HB.out.cell (World.block_lt_of_cell? w _ hw118_7)).trans hw118_7)⟩ (fun hHeld => ?_)
                              clear hK K
                              refine norm_ (a' := ?_) ?_ ?_
                              rotate_left
                              · show Act.put _ (some 69) _ = _
                                simp only [Act.put, List.setIfInBounds_toArray, List.set_cons_zero, List.set_cons_succ, i64_w, i32_w]
                                rfl
                              refine pure_ (i := 18) (N := some 70) (v := ?_) (a' := ?_) #[true, true, true, true, true, true, true, true, true, true, true, true, true, true, true, true, true, true, true, false] rfl rfl (any_of HT_.out (by kernel_rfl)) (fun _ _ _ h => h) (Or.inl ⟨by rfl, ?_⟩) ?_ ?_
                              rotate_left
                              · intro w'
                                go_simp
                                with_reducible rfl
                              rotate_left
                              · simp only [Act.put, List.setIfInBounds_toArray, List.set_cons_zero, List.set_cons_succ, i64_w, i32_w]
                                rfl
                              refine pure_ (i := 19) (N := some 2) (v := ?_) (a' := ?_) #[true, true, true, true, true, true, true, true, true, true, true, true, true, true, true, true, true, true, true, true] rfl rfl (any_of HT_.out (by kernel_rfl)) (fun _ _ _ h => h) (Or.inl ⟨by rfl, ?_⟩) ?_ ?_
                              rotate_left
                              · intro w'
                                go_simp
                                with_reducible rfl
                              rotate_left
                              · simp only [Act.put, List.setIfInBounds_toArray, List.set_cons_zero, List.set_cons_succ, i64_w, i32_w]
                                rfl
                              refine done_ (done_of HT_.out (by kernel_rfl)) ?_
                              try go_wp2
                              go_ret
                              exact ⟨by first | rfl | (simp [errW_none, errW_some] <;> rfl) | (simp [*, errW_none, errW_some] <;> rfl), by repeat (first | (with_reducible first | exact HB.out | apply below_alloc | apply pw_below_drewN | apply below_drew1 | refine below_set ?_ GE112.out) | exact HB.out)⟩
                            · rw [if_neg c36] at H
                              exact absurd H (by simp)
                          · rw [if_neg c34] at H
                            exact absurd H (by simp)
                        · rw [if_neg c33] at H
                          exact absurd H (by simp)
                      · rw [if_neg c32] at H
                        exact absurd H (by simp)
                    · rw [if_neg c31] at H
                      exact absurd H (by simp)
                  · rw [if_neg c29] at H
                    exact absurd H (by simp)
                · replace c27 := Bool.eq_false_iff.mpr c27
                  subst c27
                  have H1 : ((value_Show.f a0_2 a0_3 a0_4).bind fun t120 => (some t120)) = some r := by rw [if_neg (show ¬ (false = true) by decide)] at H; exact H
                  clear H
                  have H := H1
                  clear H1
                  replace H := Option.bind_eq_some_iff.mp H
                  obtain ⟨t120, A410, H⟩ := H
                  replace H : (some t120) = some r := H
                  have A41 := Aside0.mk A410
                  clear A410
                  obtain rfl := Option.some.inj H
                  have hcz42_0 : wc.cell? ⟨gb112, 0, none⟩ = some (.int .i64 a0_0) := (blk_cell BK112.out 0).trans rfl
                  have hcz42_1 : wc.cell? ⟨gb112, 1, none⟩ = some (.string a0_1) := (blk_cell BK112.out 1).trans rfl
                  have hcz42_2 : wc.cell? ⟨gb112, 2, none⟩ = some (.int .i64 a0_2) := (blk_cell BK112.out 2).trans rfl
                  have hcz42_3 : wc.cell? ⟨gb112, 3, none⟩ = some (.int .i64 a0_3) := (blk_cell BK112.out 3).trans rfl
                  have hcz42_4 : wc.cell? ⟨gb112, 4, none⟩ = some (.string a0_4) := (blk_cell BK112.out 4).trans rfl
                  have hcz42_5 : wc.cell? ⟨gb112, 5, none⟩ = some (.string a0_5) := (blk_cell BK112.out 5).trans rfl
                  have hcz42_6 : wc.cell? ⟨gb112, 6, none⟩ = some (.string a0_6) := (blk_cell BK112.out 6).trans rfl
                  have hcz42_7 : wc.cell? ⟨gb112, 7, none⟩ = some (.slice A0_7 l0_7.length c0_7) := (blk_cell BK112.out 7).trans rfl
                  have hfz42_0 := blk_frozen BK112.out 0
                  have hfz42_1 := blk_frozen BK112.out 1
                  have hfz42_2 := blk_frozen BK112.out 2
                  have hfz42_3 := blk_frozen BK112.out 3
                  have hfz42_4 := blk_frozen BK112.out 4
                  have hfz42_5 := blk_frozen BK112.out 5
                  have hfz42_6 := blk_frozen BK112.out 6
                  have hfz42_7 := blk_frozen BK112.out 7
                  go_wp2_with (first | ((with_reducible refine gate_callee (f := 37) rfl ?_); refine goesL_ (some 73) rfl rfl Tryd.func37 (by kernel_rfl) rfl #[.agg #[.int .i64 a0_2, .int .i64 a0_3, .string a0_4]] rfl (by (try simp only [List.map_toArray, List.map_cons, List.map_nil]); first | done | rfl | (simp only [List.length_drop, List.length_take]; rfl)) ?_; (with_reducible refine (value_Show.calls a0_2 a0_3 a0_4 t120 _ ?side1 A41.out).mono ?_); (case side1 => exact Glob.below HG.out (by repeat (first | (with_reducible first | exact HB.out | apply below_alloc | apply pw_below_drewN | apply below_drew1 | refine below_set ?_ GE112.out) | exact HB.out))); rintro e w43 ⟨rfl, hb⟩; refine ⟨_, rfl, ?_⟩; have n0_ := Aside0.mk (blk_below (g := gb112) (o := .cells #[.int .i64 a0_0, .string a0_1, .int .i64 a0_2, .int .i64 a0_3, .string a0_4, .string a0_5, .string a0_6, .slice A0_7 l0_7.length c0_7] 26 (0, 0)) (by (with_reducible repeat (first | refine blk_drewN ?_ _ | refine blk_drew ?_ | refine blk_alloc ?_ _)); exact BK112.out) hb); have n1_ := Aside0.mk (below_step (by repeat (first | (with_reducible first | exact HB.out | apply below_alloc | apply pw_below_drewN | apply below_drew1 | refine below_set ?_ GE112.out) | exact HB.out)) hb); clear BK112; clear HB; have BK112 := n0_; have HB := n1_; clear n0_ n1_; (try clear hb); (try clear hb2); (try clear hk); (try clear hi)))
                  go_ret
                  exact ⟨by first | rfl | (simp [errW_none, errW_some] <;> rfl) | (simp [*, errW_none, errW_some] <;> rfl), by repeat (first | (with_reducible first | exact HB.out | apply below_alloc | apply pw_below_drewN | apply below_drew1 | refine below_set ?_ GE112.out) | exact HB.out)⟩
theorem expr_Put.smono (P36_ : Int → ByteArray → Int → Int → ByteArray → ByteArray → ByteArray → List (S26) → Int → Option (ByteArray)) (Q36_ : Int → ByteArray → Int → Int → ByteArray → ByteArray → ByteArray → List (S26) → Int → Option (ByteArray)) (h36_ : ∀ b0_ b1_ b2_ b3_ b4_ b5_ b6_ b7_ b8_, LeO (P36_ b0_ b1_ b2_ b3_ b4_ b5_ b6_ b7_ b8_) (Q36_ b0_ b1_ b2_ b3_ b4_ b5_ b6_ b7_ b8_)) (k : Nat) : ∀ b0_ b1_ b2_ b3_ b4_ b5_ b6_ b7_, LeO (expr_Put.s P36_ k b0_ b1_ b2_ b3_ b4_ b5_ b6_ b7_) (expr_Put.s Q36_ (k + 1) b0_ b1_ b2_ b3_ b4_ b5_ b6_ b7_) := by
  intro b0_ b1_ b2_ b3_ b4_ b5_ b6_ b7_
  obtain ⟨ih0, ih1⟩ := expr_Put.mono_l P36_ Q36_ h36_ k
  unfold expr_Put.s
  repeat' first
  | exact ih0 _ _ _ _ _ _ _ _ _
  | exact ih1 _ _ _ _ _ _ _ _ _
  | exact h36_ _ _ _ _ _ _ _ _ _
  | exact expr_Level.mono _ _
  | exact LeO.refl _
  | exact LeO.none _
  | refine LeO.ite ?_ ?_
  | refine LeO.bind ?_ (fun _ => ?_)
def expr_Put.f : Nat → Int → ByteArray → Int → Int → ByteArray → ByteArray → ByteArray → List (S26) → Option (ByteArray)
  | 0 => fun _ _ _ _ _ _ _ _ => none
  | k + 1 => fun a0_ a1_ a2_ a3_ a4_ a5_ a6_ a7_ => expr_Put.s (fun ay0_ ay1_ ay2_ ay3_ ay4_ ay5_ ay6_ ay7_ ay8_ => expr_bound.s (fun ayy0_ ayy1_ ayy2_ ayy3_ ayy4_ ayy5_ ayy6_ ayy7_ => expr_Put.f k ayy0_ ayy1_ ayy2_ ayy3_ ayy4_ ayy5_ ayy6_ ayy7_) k ay0_ ay1_ ay2_ ay3_ ay4_ ay5_ ay6_ ay7_ ay8_) k a0_ a1_ a2_ a3_ a4_ a5_ a6_ a7_
theorem expr_Put.mono : ∀ a0_ a1_ a2_ a3_ a4_ a5_ a6_ a7_ k, LeO (expr_Put.f k a0_ a1_ a2_ a3_ a4_ a5_ a6_ a7_) (expr_Put.f (k + 1) a0_ a1_ a2_ a3_ a4_ a5_ a6_ a7_) := by
  have key : ∀ k a0_ a1_ a2_ a3_ a4_ a5_ a6_ a7_, LeO (expr_Put.f k a0_ a1_ a2_ a3_ a4_ a5_ a6_ a7_) (expr_Put.f (k + 1) a0_ a1_ a2_ a3_ a4_ a5_ a6_ a7_) := by
    intro k
    induction k with
    | zero => intro a0_ a1_ a2_ a3_ a4_ a5_ a6_ a7_; exact LeO.none _
    | succ k ih => intro a0_ a1_ a2_ a3_ a4_ a5_ a6_ a7_; exact expr_Put.smono _ _ (expr_bound.smono _ _ (ih) k) k a0_ a1_ a2_ a3_ a4_ a5_ a6_ a7_
  intro a0_ a1_ a2_ a3_ a4_ a5_ a6_ a7_ k
  exact key k a0_ a1_ a2_ a3_ a4_ a5_ a6_ a7_
theorem expr_Put.calls (k : Nat) : ∀ (a0_0 : Int) (a0_1 : ByteArray) (a0_2 : Int) (a0_3 : Int) (a0_4 : ByteArray) (a0_5 : ByteArray) (a0_6 : ByteArray) (A0_7 : Option Addr) (c0_7 : Nat) (l0_7 : List (S26)) (r : ByteArray) (w : World) (hr0_7 : Kd.C k26 w A0_7 l0_7.length l0_7) (hc0_7 : l0_7.length ≤ c0_7) (hG : Glob w) (h : expr_Put.f k a0_0 a0_1 a0_2 a0_3 a0_4 a0_5 a0_6 l0_7 = some r),
    Calls Tryd.prog 13 #[.agg #[.int .i64 a0_0, .string a0_1, .int .i64 a0_2, .int .i64 a0_3, .string a0_4, .string a0_5, .string a0_6, .slice A0_7 l0_7.length c0_7]] w fun e w' => e = .returned (.string r) ∧ Below w.heap.size w w' := by
  induction k with
  | zero => intros; rename_i h; exact absurd h (by simp [expr_Put.f])
  | succ k ih => exact expr_Put.scalls _ (expr_bound.scalls _ (ih) k) k

end Go.Proofs.YtccaodehgaaheaaDoor.R
