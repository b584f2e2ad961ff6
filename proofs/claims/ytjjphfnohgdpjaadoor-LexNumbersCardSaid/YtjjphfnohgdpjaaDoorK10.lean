-- Written by this session's program mprint.py over the kit's printer (with hand-written contracts laid in). Not trusted: Lean checks it.
import Derived.Test.YtjjphfnohgdpjaaDoorK0
import Derived.Test.YtjjphfnohgdpjaaDoorK1
import Derived.Test.YtjjphfnohgdpjaaDoorK5
import Derived.Test.YtjjphfnohgdpjaaDoorK7
namespace Go.Proofs.YtjjphfnohgdpjaaDoor.K
open Go.RowKit Go.Proofs.YtjjphfnohgdpjaaDoorW.PrintWords Go.Proofs.YtjjphfnohgdpjaaDoorW.PrintLast Go.Proofs.YtjjphfnohgdpjaaDoorW.PrintMore
attribute [local go_sem] max2_int min2_int max_two min_two max_three min_three max_four min_four   -- for this text's walks alone
set_option linter.unusedVariables false
set_option linter.unusedSimpArgs false

attribute [local go_sem high] eqA40
/-! ### marshallinglaw06_LexNumbers: function 6 -/
mutual
def marshallinglaw06_LexNumbers.l0 : Nat → List Int → Int → Bool → Bool → ByteArray → Int → Bool → Int → Option (Bool)
  | 0, _, _, _, _, _, _, _, _ => none
  | k + 1, x0, x1, x2, x7, x8, x9, x10, x11 => if x11 < (x0.length : Int) then (marshallinglaw06_LexNumbers.j1 k x0 x1 x2 x7 x8 x9 x10 x11 (decide (x11 < 22))) else (marshallinglaw06_LexNumbers.j1 k x0 x1 x2 x7 x8 x9 x10 x11 false)
def marshallinglaw06_LexNumbers.j1 : Nat → List Int → Int → Bool → Bool → ByteArray → Int → Bool → Int → Bool → Option (Bool)
  | 0, _, _, _, _, _, _, _, _, _ => none
  | k + 1, x0, x1, x2, x7, x8, x9, x10, x11, x31 => if x31 = true then (if 0 ≤ x11 then (if x11 < (x0.length : Int) then (if x11 = 0 then (if x9 > (IntKind.u64.wrap (Int.tdiv (IntKind.u64.wrap (9223372036854775807 - (IntKind.u64.wrap (1 + (Int.tmod (IntKind.u64.wrap (Int.tmod (rd x0 x11) 10)) 9))))) 10)) then ((some (([(IntKind.u64.wrap (48 + (IntKind.u64.wrap (1 + (Int.tmod (IntKind.u64.wrap (Int.tmod (rd x0 x11) 10)) 9))))) % 256] : List Int) : List Int)).bind fun y231 => (if x8.size + (strOfNums y231).size ≤ 9223372036854775807 then (marshallinglaw06_LexNumbers.l0 k x0 x1 x2 x7 (x8 ++ (strOfNums y231)) (IntKind.u64.wrap ((10 * 0) + (IntKind.u64.wrap (1 + (Int.tmod (IntKind.u64.wrap (Int.tmod (rd x0 x11) 10)) 9))))) false (wrap64 (x11 + 1))) else (none))) else ((some (([(IntKind.u64.wrap (48 + (IntKind.u64.wrap (1 + (Int.tmod (IntKind.u64.wrap (Int.tmod (rd x0 x11) 10)) 9))))) % 256] : List Int) : List Int)).bind fun y234 => (if x8.size + (strOfNums y234).size ≤ 9223372036854775807 then (marshallinglaw06_LexNumbers.l0 k x0 x1 x2 x7 (x8 ++ (strOfNums y234)) (IntKind.u64.wrap ((IntKind.u64.wrap (10 * x9)) + (IntKind.u64.wrap (1 + (Int.tmod (IntKind.u64.wrap (Int.tmod (rd x0 x11) 10)) 9))))) x10 (wrap64 (x11 + 1))) else (none)))) else (if x9 > (IntKind.u64.wrap (Int.tdiv (IntKind.u64.wrap (9223372036854775807 - (IntKind.u64.wrap (Int.tmod (rd x0 x11) 10)))) 10)) then ((some (([(IntKind.u64.wrap (48 + (IntKind.u64.wrap (Int.tmod (rd x0 x11) 10)))) % 256] : List Int) : List Int)).bind fun y237 => (if x8.size + (strOfNums y237).size ≤ 9223372036854775807 then (marshallinglaw06_LexNumbers.l0 k x0 x1 x2 x7 (x8 ++ (strOfNums y237)) (IntKind.u64.wrap ((10 * 0) + (IntKind.u64.wrap (Int.tmod (rd x0 x11) 10)))) false (wrap64 (x11 + 1))) else (none))) else ((some (([(IntKind.u64.wrap (48 + (IntKind.u64.wrap (Int.tmod (rd x0 x11) 10)))) % 256] : List Int) : List Int)).bind fun y240 => (if x8.size + (strOfNums y240).size ≤ 9223372036854775807 then (marshallinglaw06_LexNumbers.l0 k x0 x1 x2 x7 (x8 ++ (strOfNums y240)) (IntKind.u64.wrap ((IntKind.u64.wrap (10 * x9)) + (IntKind.u64.wrap (Int.tmod (rd x0 x11) 10)))) x10 (wrap64 (x11 + 1))) else (none))))) else (none)) else (none)) else (marshallinglaw06_LexNumbers.l1 k x2 x7 x8 x9 x10 (wrap64 (Int.tmod x1 3)) 0)
def marshallinglaw06_LexNumbers.l1 : Nat → Bool → Bool → ByteArray → Int → Bool → Int → Int → Option (Bool)
  | 0, _, _, _, _, _, _, _ => none
  | k + 1, x2, x7, x8, x9, x10, x13, x14 => if x14 < x13 then (if 1 + x8.size ≤ 9223372036854775807 then (marshallinglaw06_LexNumbers.l1 k x2 x7 ((⟨#[48]⟩ : ByteArray) ++ x8) x9 x10 x13 (wrap64 (x14 + 1))) else (none)) else (if x8.toList = ([] : List UInt8) then (marshallinglaw06_LexNumbers.j3 k x2 x7 (⟨#[48]⟩ : ByteArray) x9 x10 0) else (marshallinglaw06_LexNumbers.j3 k x2 x7 x8 x9 x10 x13))
def marshallinglaw06_LexNumbers.j3 : Nat → Bool → Bool → ByteArray → Int → Bool → Int → Option (Bool)
  | 0, _, _, _, _, _, _ => none
  | k + 1, x2, x7, x8, x9, x10, x13 => if x10 = true then (if x13 = 0 then (marshallinglaw06_LexNumbers.j4 k x2 x7 x8 x9 true) else (marshallinglaw06_LexNumbers.j4 k x2 x7 x8 x9 ((x8.size : Int) == 1))) else (marshallinglaw06_LexNumbers.j4 k x2 x7 x8 x9 false)
def marshallinglaw06_LexNumbers.j4 : Nat → Bool → Bool → ByteArray → Int → Bool → Option (Bool)
  | 0, _, _, _, _, _ => none
  | k + 1, x2, x7, x8, x9, x15 => if 2 + x8.size ≤ 9223372036854775807 then (if x2 = true then (if ((⟨#[59, 32]⟩ : ByteArray) ++ x8).size + 1 ≤ 9223372036854775807 then (marshallinglaw06_LexNumbers.j5 k x2 x7 x8 x9 x15 (((⟨#[59, 32]⟩ : ByteArray) ++ x8) ++ (⟨#[120]⟩ : ByteArray))) else (none)) else (marshallinglaw06_LexNumbers.j5 k x2 x7 x8 x9 x15 ((⟨#[59, 32]⟩ : ByteArray) ++ x8))) else (none)
def marshallinglaw06_LexNumbers.j5 : Nat → Bool → Bool → ByteArray → Int → Bool → ByteArray → Option (Bool)
  | 0, _, _, _, _, _, _ => none
  | k + 1, x2, x7, x8, x9, x15, x16 => (lex_All.f k x16).bind fun bt243 => (if x15 = true then (if x2 = true then (if x7 = true then (if bt243.2.2 = 0 then (if (bt243.1.length : Int) = 3 then (if 1 < (bt243.1.length : Int) then (some (((rd_T40 bt243.1 1).f0) == 2 && ((((rd_T40 bt243.1 1).f1).toList) == x8.toList && (((rd_T40 bt243.1 1).f2) == (wrap64 (x9)) && (((rd_T40 bt243.1 1).f3) == 2))))) else (none)) else (some false)) else (some false)) else (some false)) else (if x7 = true then (if bt243.2.2 = 0 then (if (bt243.1.length : Int) = 2 then (if 1 < (bt243.1.length : Int) then (some (((rd_T40 bt243.1 1).f0) == 2 && ((((rd_T40 bt243.1 1).f1).toList) == x8.toList && (((rd_T40 bt243.1 1).f2) == (wrap64 (x9)) && (((rd_T40 bt243.1 1).f3) == 2))))) else (none)) else (some false)) else (some false)) else (some false))) else (if x7 = true then (if bt243.2.2 = 2 then (if bt243.2.1 = 2 then (some ((bt243.1.length : Int) == 0)) else (some false)) else (some false)) else (some false)))
end
def marshallinglaw06_LexNumbers.f (k : Nat) (l0 : List Int) (a1 : Int) (a2 : Bool) : Option (Bool) := (marshallinglaw06_examples.f k).bind fun t229 => (if t229 = true then (marshallinglaw06_LexNumbers.l0 k l0 a1 a2 t229 (⟨#[]⟩ : ByteArray) 0 true 0) else (some false))
theorem marshallinglaw06_LexNumbers.mono_l : ∀ k, (∀ y0 y1 y2 y3 y4 y5 y6 y7, LeO (marshallinglaw06_LexNumbers.l0 k y0 y1 y2 y3 y4 y5 y6 y7) (marshallinglaw06_LexNumbers.l0 (k + 1) y0 y1 y2 y3 y4 y5 y6 y7)) ∧ (∀ y0 y1 y2 y3 y4 y5 y6 y7 y8, LeO (marshallinglaw06_LexNumbers.j1 k y0 y1 y2 y3 y4 y5 y6 y7 y8) (marshallinglaw06_LexNumbers.j1 (k + 1) y0 y1 y2 y3 y4 y5 y6 y7 y8)) ∧ (∀ y0 y1 y2 y3 y4 y5 y6, LeO (marshallinglaw06_LexNumbers.l1 k y0 y1 y2 y3 y4 y5 y6) (marshallinglaw06_LexNumbers.l1 (k + 1) y0 y1 y2 y3 y4 y5 y6)) ∧ (∀ y0 y1 y2 y3 y4 y5, LeO (marshallinglaw06_LexNumbers.j3 k y0 y1 y2 y3 y4 y5) (marshallinglaw06_LexNumbers.j3 (k + 1) y0 y1 y2 y3 y4 y5)) ∧ (∀ y0 y1 y2 y3 y4, LeO (marshallinglaw06_LexNumbers.j4 k y0 y1 y2 y3 y4) (marshallinglaw06_LexNumbers.j4 (k + 1) y0 y1 y2 y3 y4)) ∧ (∀ y0 y1 y2 y3 y4 y5, LeO (marshallinglaw06_LexNumbers.j5 k y0 y1 y2 y3 y4 y5) (marshallinglaw06_LexNumbers.j5 (k + 1) y0 y1 y2 y3 y4 y5))
  | 0 => ⟨fun _ _ _ _ _ _ _ _ r h => by simp [marshallinglaw06_LexNumbers.l0] at h, fun _ _ _ _ _ _ _ _ _ r h => by simp [marshallinglaw06_LexNumbers.j1] at h, fun _ _ _ _ _ _ _ r h => by simp [marshallinglaw06_LexNumbers.l1] at h, fun _ _ _ _ _ _ r h => by simp [marshallinglaw06_LexNumbers.j3] at h, fun _ _ _ _ _ r h => by simp [marshallinglaw06_LexNumbers.j4] at h, fun _ _ _ _ _ _ r h => by simp [marshallinglaw06_LexNumbers.j5] at h⟩
  | k + 1 => by
    obtain ⟨ih0, ih1, ih2, ih3, ih4, ih5⟩ := marshallinglaw06_LexNumbers.mono_l k
    refine ⟨?_, ?_, ?_, ?_, ?_, ?_⟩
    · intro y0 y1 y2 y3 y4 y5 y6 y7
      unfold marshallinglaw06_LexNumbers.l0
      repeat' first
      | (with_reducible exact ih0 _ _ _ _ _ _ _ _)
      | (with_reducible exact ih1 _ _ _ _ _ _ _ _ _)
      | (with_reducible exact ih2 _ _ _ _ _ _ _)
      | (with_reducible exact ih3 _ _ _ _ _ _)
      | (with_reducible exact ih4 _ _ _ _ _)
      | (with_reducible exact ih5 _ _ _ _ _ _)
      | (with_reducible exact lex_All.mono _ _)
      | (with_reducible exact marshallinglaw06_examples.mono _)
      | (with_reducible exact LeO.refl _)
      | (with_reducible exact LeO.none _)
      | (with_reducible refine LeO.ite ?_ ?_)
      | (with_reducible refine LeO.bind ?_ (fun _ => ?_))
      | exact ih0 _ _ _ _ _ _ _ _
      | exact ih1 _ _ _ _ _ _ _ _ _
      | exact ih2 _ _ _ _ _ _ _
      | exact ih3 _ _ _ _ _ _
      | exact ih4 _ _ _ _ _
      | exact ih5 _ _ _ _ _ _
      | exact lex_All.mono _ _
      | exact marshallinglaw06_examples.mono _
      | exact LeO.none _
      | refine LeO.ite ?_ ?_
      | refine LeO.bind ?_ (fun _ => ?_)
    · intro y0 y1 y2 y3 y4 y5 y6 y7 y8
      unfold marshallinglaw06_LexNumbers.j1
      repeat' first
      | (with_reducible exact ih0 _ _ _ _ _ _ _ _)
      | (with_reducible exact ih1 _ _ _ _ _ _ _ _ _)
      | (with_reducible exact ih2 _ _ _ _ _ _ _)
      | (with_reducible exact ih3 _ _ _ _ _ _)
      | (with_reducible exact ih4 _ _ _ _ _)
      | (with_reducible exact ih5 _ _ _ _ _ _)
      | (with_reducible exact lex_All.mono _ _)
      | (with_reducible exact marshallinglaw06_examples.mono _)
      | (with_reducible exact LeO.refl _)
      | (with_reducible exact LeO.none _)
      | (with_reducible refine LeO.ite ?_ ?_)
      | (with_reducible refine LeO.bind ?_ (fun _ => ?_))
      | exact ih0 _ _ _ _ _ _ _ _
      | exact ih1 _ _ _ _ _ _ _ _ _
      | exact ih2 _ _ _ _ _ _ _
      | exact ih3 _ _ _ _ _ _
      | exact ih4 _ _ _ _ _
      | exact ih5 _ _ _ _ _ _
      | exact lex_All.mono _ _
      | exact marshallinglaw06_examples.mono _
      | exact LeO.none _
      | refine LeO.ite ?_ ?_
      | refine LeO.bind ?_ (fun _ => ?_)
    · intro y0 y1 y2 y3 y4 y5 y6
      unfold marshallinglaw06_LexNumbers.l1
      repeat' first
      | (with_reducible exact ih0 _ _ _ _ _ _ _ _)
      | (with_reducible exact ih1 _ _ _ _ _ _ _ _ _)
      | (with_reducible exact ih2 _ _ _ _ _ _ _)
      | (with_reducible exact ih3 _ _ _ _ _ _)
      | (with_reducible exact ih4 _ _ _ _ _)
      | (with_reducible exact ih5 _ _ _ _ _ _)
      | (with_reducible exact lex_All.mono _ _)
      | (with_reducible exact marshallinglaw06_examples.mono _)
      | (with_reducible exact LeO.refl _)
      | (with_reducible exact LeO.none _)
      | (with_reducible refine LeO.ite ?_ ?_)
      | (with_reducible refine LeO.bind ?_ (fun _ => ?_))
      | exact ih0 _ _ _ _ _ _ _ _
      | exact ih1 _ _ _ _ _ _ _ _ _
      | exact ih2 _ _ _ _ _ _ _
      | exact ih3 _ _ _ _ _ _
      | exact ih4 _ _ _ _ _
      | exact ih5 _ _ _ _ _ _
      | exact lex_All.mono _ _
      | exact marshallinglaw06_examples.mono _
      | exact LeO.none _
      | refine LeO.ite ?_ ?_
      | refine LeO.bind ?_ (fun _ => ?_)
    · intro y0 y1 y2 y3 y4 y5
      unfold marshallinglaw06_LexNumbers.j3
      repeat' first
      | (with_reducible exact ih0 _ _ _ _ _ _ _ _)
      | (with_reducible exact ih1 _ _ _ _ _ _ _ _ _)
      | (with_reducible exact ih2 _ _ _ _ _ _ _)
      | (with_reducible exact ih3 _ _ _ _ _ _)
      | (with_reducible exact ih4 _ _ _ _ _)
      | (with_reducible exact ih5 _ _ _ _ _ _)
      | (with_reducible exact lex_All.mono _ _)
      | (with_reducible exact marshallinglaw06_examples.mono _)
      | (with_reducible exact LeO.refl _)
      | (with_reducible exact LeO.none _)
      | (with_reducible refine LeO.ite ?_ ?_)
      | (with_reducible refine LeO.bind ?_ (fun _ => ?_))
      | exact ih0 _ _ _ _ _ _ _ _
      | exact ih1 _ _ _ _ _ _ _ _ _
      | exact ih2 _ _ _ _ _ _ _
      | exact ih3 _ _ _ _ _ _
      | exact ih4 _ _ _ _ _
      | exact ih5 _ _ _ _ _ _
      | exact lex_All.mono _ _
      | exact marshallinglaw06_examples.mono _
      | exact LeO.none _
      | refine LeO.ite ?_ ?_
      | refine LeO.bind ?_ (fun _ => ?_)
    · intro y0 y1 y2 y3 y4
      unfold marshallinglaw06_LexNumbers.j4
      repeat' first
      | (with_reducible exact ih0 _ _ _ _ _ _ _ _)
      | (with_reducible exact ih1 _ _ _ _ _ _ _ _ _)
      | (with_reducible exact ih2 _ _ _ _ _ _ _)
      | (with_reducible exact ih3 _ _ _ _ _ _)
      | (with_reducible exact ih4 _ _ _ _ _)
      | (with_reducible exact ih5 _ _ _ _ _ _)
      | (with_reducible exact lex_All.mono _ _)
      | (with_reducible exact marshallinglaw06_examples.mono _)
      | (with_reducible exact LeO.refl _)
      | (with_reducible exact LeO.none _)
      | (with_reducible refine LeO.ite ?_ ?_)
      | (with_reducible refine LeO.bind ?_ (fun _ => ?_))
      | exact ih0 _ _ _ _ _ _ _ _
      | exact ih1 _ _ _ _ _ _ _ _ _
      | exact ih2 _ _ _ _ _ _ _
      | exact ih3 _ _ _ _ _ _
      | exact ih4 _ _ _ _ _
      | exact ih5 _ _ _ _ _ _
      | exact lex_All.mono _ _
      | exact marshallinglaw06_examples.mono _
      | exact LeO.none _
      | refine LeO.ite ?_ ?_
      | refine LeO.bind ?_ (fun _ => ?_)
    · intro y0 y1 y2 y3 y4 y5
      unfold marshallinglaw06_LexNumbers.j5
      repeat' first
      | (with_reducible exact ih0 _ _ _ _ _ _ _ _)
      | (with_reducible exact ih1 _ _ _ _ _ _ _ _ _)
      | (with_reducible exact ih2 _ _ _ _ _ _ _)
      | (with_reducible exact ih3 _ _ _ _ _ _)
      | (with_reducible exact ih4 _ _ _ _ _)
      | (with_reducible exact ih5 _ _ _ _ _ _)
      | (with_reducible exact lex_All.mono _ _)
      | (with_reducible exact marshallinglaw06_examples.mono _)
      | (with_reducible exact LeO.refl _)
      | (with_reducible exact LeO.none _)
      | (with_reducible refine LeO.ite ?_ ?_)
      | (with_reducible refine LeO.bind ?_ (fun _ => ?_))
      | exact ih0 _ _ _ _ _ _ _ _
      | exact ih1 _ _ _ _ _ _ _ _ _
      | exact ih2 _ _ _ _ _ _ _
      | exact ih3 _ _ _ _ _ _
      | exact ih4 _ _ _ _ _
      | exact ih5 _ _ _ _ _ _
      | exact lex_All.mono _ _
      | exact marshallinglaw06_examples.mono _
      | exact LeO.none _
      | refine LeO.ite ?_ ?_
      | refine LeO.bind ?_ (fun _ => ?_)
theorem marshallinglaw06_LexNumbers.mono : ∀ a0 a1 a2 k, LeO (marshallinglaw06_LexNumbers.f k a0 a1 a2) (marshallinglaw06_LexNumbers.f (k + 1) a0 a1 a2) := by
  intro a0 a1 a2 k
  obtain ⟨ih0, ih1, ih2, ih3, ih4, ih5⟩ := marshallinglaw06_LexNumbers.mono_l k
  unfold marshallinglaw06_LexNumbers.f
  repeat' first
      | (with_reducible exact ih0 _ _ _ _ _ _ _ _)
      | (with_reducible exact ih1 _ _ _ _ _ _ _ _ _)
      | (with_reducible exact ih2 _ _ _ _ _ _ _)
      | (with_reducible exact ih3 _ _ _ _ _ _)
      | (with_reducible exact ih4 _ _ _ _ _)
      | (with_reducible exact ih5 _ _ _ _ _ _)
      | (with_reducible exact lex_All.mono _ _)
      | (with_reducible exact marshallinglaw06_examples.mono _)
      | (with_reducible exact LeO.refl _)
      | (with_reducible exact LeO.none _)
      | (with_reducible refine LeO.ite ?_ ?_)
      | (with_reducible refine LeO.bind ?_ (fun _ => ?_))
      | exact ih0 _ _ _ _ _ _ _ _
      | exact ih1 _ _ _ _ _ _ _ _ _
      | exact ih2 _ _ _ _ _ _ _
      | exact ih3 _ _ _ _ _ _
      | exact ih4 _ _ _ _ _
      | exact ih5 _ _ _ _ _ _
      | exact lex_All.mono _ _
      | exact marshallinglaw06_examples.mono _
      | exact LeO.none _
      | refine LeO.ite ?_ ?_
      | refine LeO.bind ?_ (fun _ => ?_)
set_option maxHeartbeats 8000000 in
set_option maxRecDepth 100000 in
theorem marshallinglaw06_LexNumbers.calls (k : Nat) (A0 : Option Addr) (c0 : Nat) (l0 : List Int) (a1 : Int) (a2 : Bool) (r : Bool) (w : World) (hr0 : Kd.C (Kd.int .u8) w A0 l0.length l0) (hc0 : l0.length ≤ c0) (hG : Glob w) (h : marshallinglaw06_LexNumbers.f k l0 a1 a2 = some r) :
    Calls Tryd.prog 6 #[.slice A0 l0.length c0, .int .u8 a1, .bool a2] w fun e w' => e = .returned (.bool r) ∧ Below w.heap.size w w' := by
  have hu40 := Tryd.underlying40
  have HG := Aside0.mk hG
  clear hG
  have HR0 := Aside0.mk hr0
  have HC0 := Aside0.mk hc0
  clear hr0 hc0
  have HB := Aside0.mk (Below.refl w.heap.size w)
  have H : ((marshallinglaw06_examples.f k).bind fun t229 => (if t229 = true then (marshallinglaw06_LexNumbers.l0 k l0 a1 a2 t229 (⟨#[]⟩ : ByteArray) 0 true 0) else (some false))) = some r := h
  clear h
  replace H := Option.bind_eq_some_iff.mp H
  obtain ⟨t229, A40, H⟩ := H
  replace H : (if t229 = true then (marshallinglaw06_LexNumbers.l0 k l0 a1 a2 t229 (⟨#[]⟩ : ByteArray) 0 true 0) else (some false)) = some r := H
  have A4 := Aside0.mk A40
  clear A40
  by_cases c5 : t229 = true
  · subst c5
    have H1 : (marshallinglaw06_LexNumbers.l0 k l0 a1 a2 true (⟨#[]⟩ : ByteArray) 0 true 0) = some r := by rw [if_pos rfl] at H; exact H
    clear H
    have H := H1
    clear H1
    have H' := Aside0.mk H
    clear H
    go_enter Tryd.func6, Tryd.ntmps6
    go_wp2_with (first | ((with_reducible refine gate_callee (f := 9) rfl ?_); refine goesL_ (some 21) rfl rfl Tryd.func9 (by kernel_rfl) rfl #[] rfl (by (try simp only [List.map_toArray, List.map_cons, List.map_nil]); first | done | rfl | (simp only [List.length_drop, List.length_take]; rfl)) ?_; (with_reducible refine (marshallinglaw06_examples.calls k  true _ ?side1 A4.out).mono ?_); (case side1 => exact Glob.below HG.out (by repeat (first | (with_reducible first | exact HB.out | apply below_alloc | apply pw_below_drewN | apply below_drew1) | exact HB.out))); rintro e w6 ⟨rfl, hb⟩; refine ⟨_, rfl, ?_⟩; have n0_ := Aside0.mk (below_step (by repeat (first | (with_reducible first | exact HB.out | apply below_alloc | apply pw_below_drewN | apply below_drew1) | exact HB.out)) hb); clear HB; have HB := n0_; clear n0_; (try clear hb); (try clear hb2); (try clear hk); (try clear hi)))
    go_loopg [8, 9, 10, 11] k (fun kq v8 v9 v10 v11 w' => ∃ (x8_1 : ByteArray) (x9_1 : Int) (x10_1 : Bool) (x11_1 : Int), v8 = .string x8_1 ∧ v9 = .int .u64 x9_1 ∧ v10 = .bool x10_1 ∧ v11 = .int .i64 x11_1 ∧ Aside0 (marshallinglaw06_LexNumbers.l0 kq l0 a1 a2 true x8_1 x9_1 x10_1 x11_1 = some r) ∧ Aside0 (kq ≤ k) ∧ Aside0 (Below w.heap.size w w'))
    case atStart => exact ⟨((⟨#[]⟩ : ByteArray)), (0), (true), (0), (by first | rfl | (simp; done) | (simp [*]; done)), (by first | rfl | (simp; done) | (simp [*]; done)), (by first | rfl | (simp; done) | (simp [*]; done)), (by first | rfl | (simp; done) | (simp [*]; done)), H', ⟨Nat.le_refl _⟩, ⟨by repeat (first | (with_reducible first | exact HB.out | apply below_alloc | apply pw_below_drewN | apply below_drew1) | exact HB.out)⟩⟩
    case round =>
      clear H'
      try clear p2
      try clear c5
      try clear c6
      obtain ⟨x8_1, x9_1, x10_1, x11_1, rfl, rfl, rfl, rfl, HA, HK1, HB⟩ := hrel
      cases gk with
      | zero => exact absurd HA.out (by simp [marshallinglaw06_LexNumbers.l0])
      | succ k1 =>
        have H := HA.out
        clear HA
        simp only [marshallinglaw06_LexNumbers.l0] at H
        have HC7 := Aside0.mk H
        clear H
        go_upto_region 8 with (fail)
        go_cut [31] (fun v31 wc => ∃ (kq : Nat) (x31_6 : Bool), v31 = .bool x31_6 ∧ Aside0 (marshallinglaw06_LexNumbers.j1 kq l0 a1 a2 true x8_1 x9_1 x10_1 x11_1 x31_6 = some r) ∧ Aside0 (kq ≤ k1) ∧ Aside0 (Below w.heap.size w wc))
        case first =>
          have H := HC7.out
          clear HC7
          by_cases c8 : x11_1 < (l0.length : Int)
          · rw [if_pos c8] at H
            have c8b0 : decide (x11_1 < (l0.length : Int)) = true := decide_eq_true c8
            clear c8
            (first | rw [c8b0] | (simp only [i64_w, i32_w]; rw [c8b0]) | skip)
            have H' := Aside0.mk H
            clear H
            go_wp2
            go_meet
            case rel => exact ⟨_, (decide (x11_1 < 22)), (by first | rfl | (simp; done) | (simp [*]; done)), H', ⟨by have := HK1.out; first | omega | exact Nat.le_refl _⟩, ⟨by repeat (first | (with_reducible first | exact HB.out | apply below_alloc | apply pw_below_drewN | apply below_drew1) | exact HB.out)⟩⟩
          · rw [if_neg c8] at H
            have c8b0 : decide (x11_1 < (l0.length : Int)) = false := decide_eq_false c8
            clear c8
            (first | rw [c8b0] | (simp only [i64_w, i32_w]; rw [c8b0]) | skip)
            have H' := Aside0.mk H
            clear H
            go_wp2
            go_meet
            case rel => exact ⟨_, (false), (by first | rfl | (simp; done) | (simp [*]; done)), H', ⟨by have := HK1.out; first | omega | exact Nat.le_refl _⟩, ⟨by repeat (first | (with_reducible first | exact HB.out | apply below_alloc | apply pw_below_drewN | apply below_drew1) | exact HB.out)⟩⟩
        case rest =>
          clear HC7
          try clear p2
          try clear c5
          try clear c6
          try clear c8
          try clear c8b0
          try clear p2
          obtain ⟨kq, x31_6, rfl, HA, HJ6, HB⟩ := hcut
          cases kq with
          | zero => exact absurd HA.out (by simp [marshallinglaw06_LexNumbers.j1])
          | succ kj6 =>
            have H := HA.out
            clear HA
            simp only [marshallinglaw06_LexNumbers.j1] at H
            by_cases c9 : x31_6 = true
            · subst c9
              have H1 : (if 0 ≤ x11_1 then (if x11_1 < (l0.length : Int) then (if x11_1 = 0 then (if x9_1 > (IntKind.u64.wrap (Int.tdiv (IntKind.u64.wrap (9223372036854775807 - (IntKind.u64.wrap (1 + (Int.tmod (IntKind.u64.wrap (Int.tmod (rd l0 x11_1) 10)) 9))))) 10)) then ((some (([(IntKind.u64.wrap (48 + (IntKind.u64.wrap (1 + (Int.tmod (IntKind.u64.wrap (Int.tmod (rd l0 x11_1) 10)) 9))))) % 256] : List Int) : List Int)).bind fun y231 => (if x8_1.size + (strOfNums y231).size ≤ 9223372036854775807 then (marshallinglaw06_LexNumbers.l0 kj6 l0 a1 a2 true (x8_1 ++ (strOfNums y231)) (IntKind.u64.wrap ((10 * 0) + (IntKind.u64.wrap (1 + (Int.tmod (IntKind.u64.wrap (Int.tmod (rd l0 x11_1) 10)) 9))))) false (wrap64 (x11_1 + 1))) else (none))) else ((some (([(IntKind.u64.wrap (48 + (IntKind.u64.wrap (1 + (Int.tmod (IntKind.u64.wrap (Int.tmod (rd l0 x11_1) 10)) 9))))) % 256] : List Int) : List Int)).bind fun y234 => (if x8_1.size + (strOfNums y234).size ≤ 9223372036854775807 then (marshallinglaw06_LexNumbers.l0 kj6 l0 a1 a2 true (x8_1 ++ (strOfNums y234)) (IntKind.u64.wrap ((IntKind.u64.wrap (10 * x9_1)) + (IntKind.u64.wrap (1 + (Int.tmod (IntKind.u64.wrap (Int.tmod (rd l0 x11_1) 10)) 9))))) x10_1 (wrap64 (x11_1 + 1))) else (none)))) else (if x9_1 > (IntKind.u64.wrap (Int.tdiv (IntKind.u64.wrap (9223372036854775807 - (IntKind.u64.wrap (Int.tmod (rd l0 x11_1) 10)))) 10)) then ((some (([(IntKind.u64.wrap (48 + (IntKind.u64.wrap (Int.tmod (rd l0 x11_1) 10)))) % 256] : List Int) : List Int)).bind fun y237 => (if x8_1.size + (strOfNums y237).size ≤ 9223372036854775807 then (marshallinglaw06_LexNumbers.l0 kj6 l0 a1 a2 true (x8_1 ++ (strOfNums y237)) (IntKind.u64.wrap ((10 * 0) + (IntKind.u64.wrap (Int.tmod (rd l0 x11_1) 10)))) false (wrap64 (x11_1 + 1))) else (none))) else ((some (([(IntKind.u64.wrap (48 + (IntKind.u64.wrap (Int.tmod (rd l0 x11_1) 10)))) % 256] : List Int) : List Int)).bind fun y240 => (if x8_1.size + (strOfNums y240).size ≤ 9223372036854775807 then (marshallinglaw06_LexNumbers.l0 kj6 l0 a1 a2 true (x8_1 ++ (strOfNums y240)) (IntKind.u64.wrap ((IntKind.u64.wrap (10 * x9_1)) + (IntKind.u64.wrap (Int.tmod (rd l0 x11_1) 10)))) x10_1 (wrap64 (x11_1 + 1))) else (none))))) else (none)) else (none)) = some r := by rw [if_pos rfl] at H; exact H
              clear H
              have H := H1
              clear H1
              by_cases c10 : 0 ≤ x11_1
              · rw [if_pos c10] at H
                have c10b0 : decide (0 ≤ x11_1) = true := decide_eq_true c10
                clear c10
                by_cases c11 : x11_1 < (l0.length : Int)
                · rw [if_pos c11] at H
                  have c11b0 : decide (x11_1 < (l0.length : Int)) = true := decide_eq_true c11
                  clear c11
                  by_cases c12 : x11_1 = 0
                  · rw [if_pos c12] at H
                    have c12b0 : (x11_1 == 0) = true := beq_iff_eq.mpr c12
                    have c12b1 : (x11_1 != 0) = false := bne_eq_false_iff_eq.mpr c12
                    clear c12
                    by_cases c13 : x9_1 > (IntKind.u64.wrap (Int.tdiv (IntKind.u64.wrap (9223372036854775807 - (IntKind.u64.wrap (1 + (Int.tmod (IntKind.u64.wrap (Int.tmod (rd l0 x11_1) 10)) 9))))) 10))
                    · rw [if_pos c13] at H
                      have c13b0 : decide ((IntKind.u64.wrap (Int.tdiv (IntKind.u64.wrap (9223372036854775807 - (IntKind.u64.wrap (1 + (Int.tmod (IntKind.u64.wrap (Int.tmod (rd l0 x11_1) 10)) 9))))) 10)) < x9_1) = true := decide_eq_true c13
                      clear c13
                      obtain ⟨y231, hy231⟩ : ∃ y_ : List Int, y_ = (([(IntKind.u64.wrap (48 + (IntKind.u64.wrap (1 + (Int.tmod (IntKind.u64.wrap (Int.tmod (rd l0 x11_1) 10)) 9))))) % 256] : List Int)) := ⟨_, rfl⟩
                      replace H : (if x8_1.size + (strOfNums y231).size ≤ 9223372036854775807 then (marshallinglaw06_LexNumbers.l0 kj6 l0 a1 a2 true (x8_1 ++ (strOfNums y231)) (IntKind.u64.wrap ((10 * 0) + (IntKind.u64.wrap (1 + (Int.tmod (IntKind.u64.wrap (Int.tmod (rd l0 x11_1) 10)) 9))))) false (wrap64 (x11_1 + 1))) else (none)) = some r := by first | (rw [hy231]; with_reducible exact H) | (have H2_ := (Option.bind_some _ _).symm.trans H; rw [hy231]; with_reducible exact H2_) | (have H2_ := (Option.bind_some _ _).symm.trans H; with_reducible exact H2_) | with_reducible exact H | (rw [hy231]; exact H) | exact H
                      have Ny231 := Aside0.mk hy231
                      clear hy231
                      by_cases c14 : x8_1.size + (strOfNums y231).size ≤ 9223372036854775807
                      · rw [if_pos c14] at H
                        have c14b0 := eq_true c14
                        have c14b1 : decide (x8_1.size + (strOfNums y231).size ≤ 9223372036854775807) = true := decide_eq_true c14
                        try have c14b2 : (9223372036854775807 < x8_1.size + (strOfNums y231).size) = False := eq_false (Nat.not_lt.2 c14)
                        have H' := Aside0.mk H
                        clear H
                        have p230 : 0 ≤ (x11_1 : Int) := of_decide_eq_true (by first | (with_reducible assumption) | assumption)
                        have q230 : x11_1 < (l0.length : Int) := of_decide_eq_true (by first | (with_reducible assumption) | assumption)
                        obtain ⟨ad230, e230, hx230_0⟩ := Kd.at_int HR0.out x11_1 p230 q230
                        cases e230
                        replace hx230_0 := (HB.out.cell (World.block_lt_of_cell? w _ hx230_0)).trans hx230_0
                        replace p230 := eq_true p230
                        replace q230 := eq_true q230
                        go_wp2_with (first | ((with_reducible refine gate_dst (N := 58) rfl ?_); (try (refine gate_guard (by rfl) ?_; dsimp only)); refine Kd.R_lit (Kd.int .u8) _ 5 ?hg (N := 58) ?hd (xs := ([(IntKind.u64.wrap (48 + (IntKind.u64.wrap (1 + (Int.tmod (IntKind.u64.wrap (Int.tmod (rd l0 x11_1) 10)) 9))))) % 256] : List Int)) (inner := [.int .u8 ((IntKind.u64.wrap (48 + (IntKind.u64.wrap (1 + (Int.tmod (IntKind.u64.wrap (Int.tmod (rd l0 x11_1) 10)) 9))))) % 256)]) (ok := fun _ => True) (okp := fun _ => True) ?hr ?hp (fun _ hk => hk) trivial (Below.refl _ _) (Nat.le_refl _) (by simp) ?_; (case hd => rfl); (case hg => rfl); (case hr => first | (go_simp; done) | (go_simp; rfl)); (case hp => exact (Reps.one (show Kd.M (Kd.int .u8) _ _ _ ((IntKind.u64.wrap (48 + (IntKind.u64.wrap (1 + (Int.tmod (IntKind.u64.wrap (Int.tmod (rd l0 x11_1) 10)) 9))))) % 256) [.int .u8 ((IntKind.u64.wrap (48 + (IntKind.u64.wrap (1 + (Int.tmod (IntKind.u64.wrap (Int.tmod (rd l0 x11_1) 10)) 9))))) % 256)] from rfl) (Reps.none _ _))); intro v232 w15 ho16 hb hg_ hnew_; clear hg_ hnew_; (first | rw [← Ny231.out] at ho16 | (simp only [Int.reduceToNat] at ho16; rw [← Ny231.out] at ho16)); have n0_ := Aside0.mk (Kd.R_lower ho16 (below_size (by repeat (first | (with_reducible first | exact HB.out | apply below_alloc | apply pw_below_drewN | apply below_drew1) | exact HB.out)))); have n1_ := Aside0.mk (below_step (by repeat (first | (with_reducible first | exact HB.out | apply below_alloc | apply pw_below_drewN | apply below_drew1) | exact HB.out)) hb); clear HB; have HO233 := n0_; have HB := n1_; clear n0_ n1_; clear hb ho16; have hcv17 := own_string (P := Tryd.prog) Tryd.underlying22 Tryd.underlying5 Tryd.underlying9 (Kd.own_of_R HO233.out)))
                        go_roundg kj6
                        case measure => have := HK1.out; have := HJ6.out; omega
                        case rel => exact ⟨(x8_1 ++ (strOfNums y231)), (IntKind.u64.wrap ((10 * 0) + (IntKind.u64.wrap (1 + (Int.tmod (IntKind.u64.wrap (Int.tmod (rd l0 x11_1) 10)) 9))))), (false), (wrap64 (x11_1 + 1)), (by first | rfl | (simp; done) | (simp [*]; done)), (by first | rfl | (simp; done) | (simp [*]; done)), (by first | rfl | (simp; done) | (simp [*]; done)), (by first | rfl | (simp; done) | (simp [*]; done)), H', ⟨by have := HK1.out; have := HJ6.out; omega⟩, ⟨by repeat (first | (with_reducible first | exact HB.out | apply below_alloc | apply pw_below_drewN | apply below_drew1) | exact HB.out)⟩⟩
                      · rw [if_neg c14] at H
                        exact absurd H (by simp)
                    · rw [if_neg c13] at H
                      have c13b0 : decide ((IntKind.u64.wrap (Int.tdiv (IntKind.u64.wrap (9223372036854775807 - (IntKind.u64.wrap (1 + (Int.tmod (IntKind.u64.wrap (Int.tmod (rd l0 x11_1) 10)) 9))))) 10)) < x9_1) = false := decide_eq_false c13
                      clear c13
                      obtain ⟨y234, hy234⟩ : ∃ y_ : List Int, y_ = (([(IntKind.u64.wrap (48 + (IntKind.u64.wrap (1 + (Int.tmod (IntKind.u64.wrap (Int.tmod (rd l0 x11_1) 10)) 9))))) % 256] : List Int)) := ⟨_, rfl⟩
                      replace H : (if x8_1.size + (strOfNums y234).size ≤ 9223372036854775807 then (marshallinglaw06_LexNumbers.l0 kj6 l0 a1 a2 true (x8_1 ++ (strOfNums y234)) (IntKind.u64.wrap ((IntKind.u64.wrap (10 * x9_1)) + (IntKind.u64.wrap (1 + (Int.tmod (IntKind.u64.wrap (Int.tmod (rd l0 x11_1) 10)) 9))))) x10_1 (wrap64 (x11_1 + 1))) else (none)) = some r := by first | (rw [hy234]; with_reducible exact H) | (have H2_ := (Option.bind_some _ _).symm.trans H; rw [hy234]; with_reducible exact H2_) | (have H2_ := (Option.bind_some _ _).symm.trans H; with_reducible exact H2_) | with_reducible exact H | (rw [hy234]; exact H) | exact H
                      have Ny234 := Aside0.mk hy234
                      clear hy234
                      by_cases c18 : x8_1.size + (strOfNums y234).size ≤ 9223372036854775807
                      · rw [if_pos c18] at H
                        have c18b0 := eq_true c18
                        have c18b1 : decide (x8_1.size + (strOfNums y234).size ≤ 9223372036854775807) = true := decide_eq_true c18
                        try have c18b2 : (9223372036854775807 < x8_1.size + (strOfNums y234).size) = False := eq_false (Nat.not_lt.2 c18)
                        have H' := Aside0.mk H
                        clear H
                        have p230 : 0 ≤ (x11_1 : Int) := of_decide_eq_true (by first | (with_reducible assumption) | assumption)
                        have q230 : x11_1 < (l0.length : Int) := of_decide_eq_true (by first | (with_reducible assumption) | assumption)
                        obtain ⟨ad230, e230, hx230_0⟩ := Kd.at_int HR0.out x11_1 p230 q230
                        cases e230
                        replace hx230_0 := (HB.out.cell (World.block_lt_of_cell? w _ hx230_0)).trans hx230_0
                        replace p230 := eq_true p230
                        replace q230 := eq_true q230
                        go_wp2_with (first | ((with_reducible refine gate_dst (N := 58) rfl ?_); (try (refine gate_guard (by rfl) ?_; dsimp only)); refine Kd.R_lit (Kd.int .u8) _ 5 ?hg (N := 58) ?hd (xs := ([(IntKind.u64.wrap (48 + (IntKind.u64.wrap (1 + (Int.tmod (IntKind.u64.wrap (Int.tmod (rd l0 x11_1) 10)) 9))))) % 256] : List Int)) (inner := [.int .u8 ((IntKind.u64.wrap (48 + (IntKind.u64.wrap (1 + (Int.tmod (IntKind.u64.wrap (Int.tmod (rd l0 x11_1) 10)) 9))))) % 256)]) (ok := fun _ => True) (okp := fun _ => True) ?hr ?hp (fun _ hk => hk) trivial (Below.refl _ _) (Nat.le_refl _) (by simp) ?_; (case hd => rfl); (case hg => rfl); (case hr => first | (go_simp; done) | (go_simp; rfl)); (case hp => exact (Reps.one (show Kd.M (Kd.int .u8) _ _ _ ((IntKind.u64.wrap (48 + (IntKind.u64.wrap (1 + (Int.tmod (IntKind.u64.wrap (Int.tmod (rd l0 x11_1) 10)) 9))))) % 256) [.int .u8 ((IntKind.u64.wrap (48 + (IntKind.u64.wrap (1 + (Int.tmod (IntKind.u64.wrap (Int.tmod (rd l0 x11_1) 10)) 9))))) % 256)] from rfl) (Reps.none _ _))); intro v235 w19 ho20 hb hg_ hnew_; clear hg_ hnew_; (first | rw [← Ny234.out] at ho20 | (simp only [Int.reduceToNat] at ho20; rw [← Ny234.out] at ho20)); have n0_ := Aside0.mk (Kd.R_lower ho20 (below_size (by repeat (first | (with_reducible first | exact HB.out | apply below_alloc | apply pw_below_drewN | apply below_drew1) | exact HB.out)))); have n1_ := Aside0.mk (below_step (by repeat (first | (with_reducible first | exact HB.out | apply below_alloc | apply pw_below_drewN | apply below_drew1) | exact HB.out)) hb); clear HB; have HO236 := n0_; have HB := n1_; clear n0_ n1_; clear hb ho20; have hcv21 := own_string (P := Tryd.prog) Tryd.underlying22 Tryd.underlying5 Tryd.underlying9 (Kd.own_of_R HO236.out)))
                        go_roundg kj6
                        case measure => have := HK1.out; have := HJ6.out; omega
                        case rel => exact ⟨(x8_1 ++ (strOfNums y234)), (IntKind.u64.wrap ((IntKind.u64.wrap (10 * x9_1)) + (IntKind.u64.wrap (1 + (Int.tmod (IntKind.u64.wrap (Int.tmod (rd l0 x11_1) 10)) 9))))), (x10_1), (wrap64 (x11_1 + 1)), (by first | rfl | (simp; done) | (simp [*]; done)), (by first | rfl | (simp; done) | (simp [*]; done)), (by first | rfl | (simp; done) | (simp [*]; done)), (by first | rfl | (simp; done) | (simp [*]; done)), H', ⟨by have := HK1.out; have := HJ6.out; omega⟩, ⟨by repeat (first | (with_reducible first | exact HB.out | apply below_alloc | apply pw_below_drewN | apply below_drew1) | exact HB.out)⟩⟩
                      · rw [if_neg c18] at H
                        exact absurd H (by simp)
                  · rw [if_neg c12] at H
                    have c12b0 : (x11_1 == 0) = false := beq_eq_false_iff_ne.mpr c12
                    have c12b1 : (x11_1 != 0) = true := bne_iff_ne.mpr c12
                    by_cases c22 : x9_1 > (IntKind.u64.wrap (Int.tdiv (IntKind.u64.wrap (9223372036854775807 - (IntKind.u64.wrap (Int.tmod (rd l0 x11_1) 10)))) 10))
                    · rw [if_pos c22] at H
                      have c22b0 : decide ((IntKind.u64.wrap (Int.tdiv (IntKind.u64.wrap (9223372036854775807 - (IntKind.u64.wrap (Int.tmod (rd l0 x11_1) 10)))) 10)) < x9_1) = true := decide_eq_true c22
                      clear c22
                      obtain ⟨y237, hy237⟩ : ∃ y_ : List Int, y_ = (([(IntKind.u64.wrap (48 + (IntKind.u64.wrap (Int.tmod (rd l0 x11_1) 10)))) % 256] : List Int)) := ⟨_, rfl⟩
                      replace H : (if x8_1.size + (strOfNums y237).size ≤ 9223372036854775807 then (marshallinglaw06_LexNumbers.l0 kj6 l0 a1 a2 true (x8_1 ++ (strOfNums y237)) (IntKind.u64.wrap ((10 * 0) + (IntKind.u64.wrap (Int.tmod (rd l0 x11_1) 10)))) false (wrap64 (x11_1 + 1))) else (none)) = some r := by first | (rw [hy237]; with_reducible exact H) | (have H2_ := (Option.bind_some _ _).symm.trans H; rw [hy237]; with_reducible exact H2_) | (have H2_ := (Option.bind_some _ _).symm.trans H; with_reducible exact H2_) | with_reducible exact H | (rw [hy237]; exact H) | exact H
                      have Ny237 := Aside0.mk hy237
                      clear hy237
                      by_cases c23 : x8_1.size + (strOfNums y237).size ≤ 9223372036854775807
                      · rw [if_pos c23] at H
                        have c23b0 := eq_true c23
                        have c23b1 : decide (x8_1.size + (strOfNums y237).size ≤ 9223372036854775807) = true := decide_eq_true c23
                        try have c23b2 : (9223372036854775807 < x8_1.size + (strOfNums y237).size) = False := eq_false (Nat.not_lt.2 c23)
                        have H' := Aside0.mk H
                        clear H
                        have p230 : 0 ≤ (x11_1 : Int) := of_decide_eq_true (by first | (with_reducible assumption) | assumption)
                        have q230 : x11_1 < (l0.length : Int) := of_decide_eq_true (by first | (with_reducible assumption) | assumption)
                        obtain ⟨ad230, e230, hx230_0⟩ := Kd.at_int HR0.out x11_1 p230 q230
                        cases e230
                        replace hx230_0 := (HB.out.cell (World.block_lt_of_cell? w _ hx230_0)).trans hx230_0
                        replace p230 := eq_true p230
                        replace q230 := eq_true q230
                        go_wp2_with (first | ((with_reducible refine gate_dst (N := 58) rfl ?_); (try (refine gate_guard (by rfl) ?_; dsimp only)); refine Kd.R_lit (Kd.int .u8) _ 5 ?hg (N := 58) ?hd (xs := ([(IntKind.u64.wrap (48 + (IntKind.u64.wrap (Int.tmod (rd l0 x11_1) 10)))) % 256] : List Int)) (inner := [.int .u8 ((IntKind.u64.wrap (48 + (IntKind.u64.wrap (Int.tmod (rd l0 x11_1) 10)))) % 256)]) (ok := fun _ => True) (okp := fun _ => True) ?hr ?hp (fun _ hk => hk) trivial (Below.refl _ _) (Nat.le_refl _) (by simp) ?_; (case hd => rfl); (case hg => rfl); (case hr => first | (go_simp; done) | (go_simp; rfl)); (case hp => exact (Reps.one (show Kd.M (Kd.int .u8) _ _ _ ((IntKind.u64.wrap (48 + (IntKind.u64.wrap (Int.tmod (rd l0 x11_1) 10)))) % 256) [.int .u8 ((IntKind.u64.wrap (48 + (IntKind.u64.wrap (Int.tmod (rd l0 x11_1) 10)))) % 256)] from rfl) (Reps.none _ _))); intro v238 w24 ho25 hb hg_ hnew_; clear hg_ hnew_; (first | rw [← Ny237.out] at ho25 | (simp only [Int.reduceToNat] at ho25; rw [← Ny237.out] at ho25)); have n0_ := Aside0.mk (Kd.R_lower ho25 (below_size (by repeat (first | (with_reducible first | exact HB.out | apply below_alloc | apply pw_below_drewN | apply below_drew1) | exact HB.out)))); have n1_ := Aside0.mk (below_step (by repeat (first | (with_reducible first | exact HB.out | apply below_alloc | apply pw_below_drewN | apply below_drew1) | exact HB.out)) hb); clear HB; have HO239 := n0_; have HB := n1_; clear n0_ n1_; clear hb ho25; have hcv26 := own_string (P := Tryd.prog) Tryd.underlying22 Tryd.underlying5 Tryd.underlying9 (Kd.own_of_R HO239.out)))
                        go_roundg kj6
                        case measure => have := HK1.out; have := HJ6.out; omega
                        case rel => exact ⟨(x8_1 ++ (strOfNums y237)), (IntKind.u64.wrap ((10 * 0) + (IntKind.u64.wrap (Int.tmod (rd l0 x11_1) 10)))), (false), (wrap64 (x11_1 + 1)), (by first | rfl | (simp; done) | (simp [*]; done)), (by first | rfl | (simp; done) | (simp [*]; done)), (by first | rfl | (simp; done) | (simp [*]; done)), (by first | rfl | (simp; done) | (simp [*]; done)), H', ⟨by have := HK1.out; have := HJ6.out; omega⟩, ⟨by repeat (first | (with_reducible first | exact HB.out | apply below_alloc | apply pw_below_drewN | apply below_drew1) | exact HB.out)⟩⟩
                      · rw [if_neg c23] at H
                        exact absurd H (by simp)
                    · rw [if_neg c22] at H
                      have c22b0 : decide ((IntKind.u64.wrap (Int.tdiv (IntKind.u64.wrap (9223372036854775807 - (IntKind.u64.wrap (Int.tmod (rd l0 x11_1) 10)))) 10)) < x9_1) = false := decide_eq_false c22
                      clear c22
                      obtain ⟨y240, hy240⟩ : ∃ y_ : List Int, y_ = (([(IntKind.u64.wrap (48 + (IntKind.u64.wrap (Int.tmod (rd l0 x11_1) 10)))) % 256] : List Int)) := ⟨_, rfl⟩
                      replace H : (if x8_1.size + (strOfNums y240).size ≤ 9223372036854775807 then (marshallinglaw06_LexNumbers.l0 kj6 l0 a1 a2 true (x8_1 ++ (strOfNums y240)) (IntKind.u64.wrap ((IntKind.u64.wrap (10 * x9_1)) + (IntKind.u64.wrap (Int.tmod (rd l0 x11_1) 10)))) x10_1 (wrap64 (x11_1 + 1))) else (none)) = some r := by first | (rw [hy240]; with_reducible exact H) | (have H2_ := (Option.bind_some _ _).symm.trans H; rw [hy240]; with_reducible exact H2_) | (have H2_ := (Option.bind_some _ _).symm.trans H; with_reducible exact H2_) | with_reducible exact H | (rw [hy240]; exact H) | exact H
                      have Ny240 := Aside0.mk hy240
                      clear hy240
                      by_cases c27 : x8_1.size + (strOfNums y240).size ≤ 9223372036854775807
                      · rw [if_pos c27] at H
                        have c27b0 := eq_true c27
                        have c27b1 : decide (x8_1.size + (strOfNums y240).size ≤ 9223372036854775807) = true := decide_eq_true c27
                        try have c27b2 : (9223372036854775807 < x8_1.size + (strOfNums y240).size) = False := eq_false (Nat.not_lt.2 c27)
                        have H' := Aside0.mk H
                        clear H
                        have p230 : 0 ≤ (x11_1 : Int) := of_decide_eq_true (by first | (with_reducible assumption) | assumption)
                        have q230 : x11_1 < (l0.length : Int) := of_decide_eq_true (by first | (with_reducible assumption) | assumption)
                        obtain ⟨ad230, e230, hx230_0⟩ := Kd.at_int HR0.out x11_1 p230 q230
                        cases e230
                        replace hx230_0 := (HB.out.cell (World.block_lt_of_cell? w _ hx230_0)).trans hx230_0
                        replace p230 := eq_true p230
                        replace q230 := eq_true q230
                        go_wp2_with (first | ((with_reducible refine gate_dst (N := 58) rfl ?_); (try (refine gate_guard (by rfl) ?_; dsimp only)); refine Kd.R_lit (Kd.int .u8) _ 5 ?hg (N := 58) ?hd (xs := ([(IntKind.u64.wrap (48 + (IntKind.u64.wrap (Int.tmod (rd l0 x11_1) 10)))) % 256] : List Int)) (inner := [.int .u8 ((IntKind.u64.wrap (48 + (IntKind.u64.wrap (Int.tmod (rd l0 x11_1) 10)))) % 256)]) (ok := fun _ => True) (okp := fun _ => True) ?hr ?hp (fun _ hk => hk) trivial (Below.refl _ _) (Nat.le_refl _) (by simp) ?_; (case hd => rfl); (case hg => rfl); (case hr => first | (go_simp; done) | (go_simp; rfl)); (case hp => exact (Reps.one (show Kd.M (Kd.int .u8) _ _ _ ((IntKind.u64.wrap (48 + (IntKind.u64.wrap (Int.tmod (rd l0 x11_1) 10)))) % 256) [.int .u8 ((IntKind.u64.wrap (48 + (IntKind.u64.wrap (Int.tmod (rd l0 x11_1) 10)))) % 256)] from rfl) (Reps.none _ _))); intro v241 w28 ho29 hb hg_ hnew_; clear hg_ hnew_; (first | rw [← Ny240.out] at ho29 | (simp only [Int.reduceToNat] at ho29; rw [← Ny240.out] at ho29)); have n0_ := Aside0.mk (Kd.R_lower ho29 (below_size (by repeat (first | (with_reducible first | exact HB.out | apply below_alloc | apply pw_below_drewN | apply below_drew1) | exact HB.out)))); have n1_ := Aside0.mk (below_step (by repeat (first | (with_reducible first | exact HB.out | apply below_alloc | apply pw_below_drewN | apply below_drew1) | exact HB.out)) hb); clear HB; have HO242 := n0_; have HB := n1_; clear n0_ n1_; clear hb ho29; have hcv30 := own_string (P := Tryd.prog) Tryd.underlying22 Tryd.underlying5 Tryd.underlying9 (Kd.own_of_R HO242.out)))
                        go_roundg kj6
                        case measure => have := HK1.out; have := HJ6.out; omega
                        case rel => exact ⟨(x8_1 ++ (strOfNums y240)), (IntKind.u64.wrap ((IntKind.u64.wrap (10 * x9_1)) + (IntKind.u64.wrap (Int.tmod (rd l0 x11_1) 10)))), (x10_1), (wrap64 (x11_1 + 1)), (by first | rfl | (simp; done) | (simp [*]; done)), (by first | rfl | (simp; done) | (simp [*]; done)), (by first | rfl | (simp; done) | (simp [*]; done)), (by first | rfl | (simp; done) | (simp [*]; done)), H', ⟨by have := HK1.out; have := HJ6.out; omega⟩, ⟨by repeat (first | (with_reducible first | exact HB.out | apply below_alloc | apply pw_below_drewN | apply below_drew1) | exact HB.out)⟩⟩
                      · rw [if_neg c27] at H
                        exact absurd H (by simp)
                · rw [if_neg c11] at H
                  exact absurd H (by simp)
              · rw [if_neg c10] at H
                exact absurd H (by simp)
            · replace c9 := Bool.eq_false_iff.mpr c9
              subst c9
              have H1 : (marshallinglaw06_LexNumbers.l1 kj6 a2 true x8_1 x9_1 x10_1 (wrap64 (Int.tmod a1 3)) 0) = some r := by rw [if_neg (show ¬ (false = true) by decide)] at H; exact H
              clear H
              have H := H1
              clear H1
              have H' := Aside0.mk H
              clear H
              go_wp2
              go_loopg [8, 14] kj6 (fun kq v8 v14 w' => ∃ (x8_3 : ByteArray) (x14_3 : Int), v8 = .string x8_3 ∧ v14 = .int .i64 x14_3 ∧ Aside0 (marshallinglaw06_LexNumbers.l1 kq a2 true x8_3 x9_1 x10_1 (wrap64 (Int.tmod a1 3)) x14_3 = some r) ∧ Aside0 (kq ≤ kj6) ∧ Aside0 (Below w.heap.size w w'))
              case atStart => exact ⟨(x8_1), (0), (by first | rfl | (simp; done) | (simp [*]; done)), (by first | rfl | (simp; done) | (simp [*]; done)), H', ⟨Nat.le_refl _⟩, ⟨by repeat (first | (with_reducible first | exact HB.out | apply below_alloc | apply pw_below_drewN | apply below_drew1) | exact HB.out)⟩⟩
              case round =>
                clear H'
                try clear c1
                try clear hcv1
                try clear c2
                try clear p2
                try clear q2
                try clear hx2
                try clear hcv2
                try clear hcv3
                try clear c5
                try clear c6
                try clear p6
                try clear c8
                try clear c8b0
                try clear c9
                try clear c10
                try clear c10b0
                try clear c11
                try clear c11b0
                try clear c12
                try clear c12b0
                try clear c12b1
                try clear c13
                try clear c13b0
                try clear c14
                try clear c14b0
                try clear c14b1
                try clear c14b2
                try clear hcv17
                try clear c18
                try clear c18b0
                try clear c18b1
                try clear c18b2
                try clear hcv21
                try clear c22
                try clear c22b0
                try clear c23
                try clear c23b0
                try clear c23b1
                try clear c23b2
                try clear p23
                try clear q23
                try clear hx23
                try clear hcv26
                try clear c27
                try clear c27b0
                try clear c27b1
                try clear c27b2
                try clear hcv30
                try clear hx230_0
                try clear p2
                try clear p230
                try clear q230
                obtain ⟨x8_3, x14_3, rfl, rfl, HA, HK3, HB⟩ := hrel
                cases gk with
                | zero => exact absurd HA.out (by simp [marshallinglaw06_LexNumbers.l1])
                | succ k3 =>
                  have H := HA.out
                  clear HA
                  simp only [marshallinglaw06_LexNumbers.l1] at H
                  by_cases c31 : x14_3 < (wrap64 (Int.tmod a1 3))
                  · rw [if_pos c31] at H
                    have c31b0 : decide (x14_3 < (wrap64 (Int.tmod a1 3))) = true := decide_eq_true c31
                    clear c31
                    by_cases c32 : 1 + x8_3.size ≤ 9223372036854775807
                    · rw [if_pos c32] at H
                      have c32b0 := eq_true c32
                      have c32b1 : decide (1 + x8_3.size ≤ 9223372036854775807) = true := decide_eq_true c32
                      try have c32b2 : (9223372036854775807 < 1 + x8_3.size) = False := eq_false (Nat.not_lt.2 c32)
                      have H' := Aside0.mk H
                      clear H
                      go_wp2
                      go_roundg k3
                      case measure => have := HK1.out; have := HJ6.out; have := HK3.out; omega
                      case rel => exact ⟨((⟨#[48]⟩ : ByteArray) ++ x8_3), (wrap64 (x14_3 + 1)), (by first | rfl | (simp; done) | (simp [*]; done)), (by first | rfl | (simp; done) | (simp [*]; done)), H', ⟨by have := HK1.out; have := HJ6.out; have := HK3.out; omega⟩, ⟨by repeat (first | (with_reducible first | exact HB.out | apply below_alloc | apply pw_below_drewN | apply below_drew1) | exact HB.out)⟩⟩
                    · rw [if_neg c32] at H
                      exact absurd H (by simp)
                  · rw [if_neg c31] at H
                    have c31b0 : decide (x14_3 < (wrap64 (Int.tmod a1 3))) = false := decide_eq_false c31
                    clear c31
                    have HC33 := Aside0.mk H
                    clear H
                    go_upto_if 72 with (fail)
                    go_cut [8, 13] (fun v8 v13 wc => ∃ (kq : Nat) (x8_32 : ByteArray) (x13_32 : Int), v8 = .string x8_32 ∧ v13 = .int .i64 x13_32 ∧ Aside0 (marshallinglaw06_LexNumbers.j3 kq a2 true x8_32 x9_1 x10_1 x13_32 = some r) ∧ Aside0 (kq ≤ k3) ∧ Aside0 (Below w.heap.size w wc))
                    case first =>
                      have H := HC33.out
                      clear HC33
                      by_cases c34 : x8_3.toList = ([] : List UInt8)
                      · rw [if_pos c34] at H
                        have c34b0 : (x8_3.toList == ([] : List UInt8)) = true := beq_iff_eq.mpr c34
                        have c34b1 : (x8_3.toList != ([] : List UInt8)) = false := bne_eq_false_iff_eq.mpr c34
                        (try (have c34b2 : x8_3.toList.isEmpty = true := by rw [c34]; rfl))
                        (try (have c34b3 : (!x8_3.toList.isEmpty) = false := by rw [c34]; rfl))
                        clear c34
                        (try rw [c34b3])
                        (try rw [c34b2])
                        (first | rw [c34b0] | (simp only [i64_w, i32_w]; rw [c34b0]) | skip)
                        have H' := Aside0.mk H
                        clear H
                        go_wp2
                        go_meet
                        case rel => exact ⟨_, ((⟨#[48]⟩ : ByteArray)), (0), (by first | rfl | (simp; done) | (simp [*]; done)), (by first | rfl | (simp; done) | (simp [*]; done)), H', ⟨by have := HK1.out; have := HJ6.out; have := HK3.out; first | omega | exact Nat.le_refl _⟩, ⟨by repeat (first | (with_reducible first | exact HB.out | apply below_alloc | apply pw_below_drewN | apply below_drew1) | exact HB.out)⟩⟩
                      · rw [if_neg c34] at H
                        have c34b0 : (x8_3.toList == ([] : List UInt8)) = false := beq_eq_false_iff_ne.mpr c34
                        have c34b1 : (x8_3.toList != ([] : List UInt8)) = true := bne_iff_ne.mpr c34
                        (try (have c34b2 : x8_3.toList.isEmpty = false := by simpa using c34))
                        (try (have c34b3 : (!x8_3.toList.isEmpty) = true := by simpa using c34))
                        (try rw [c34b3])
                        (try rw [c34b2])
                        (first | rw [c34b0] | (simp only [i64_w, i32_w]; rw [c34b0]) | skip)
                        have H' := Aside0.mk H
                        clear H
                        go_wp2
                        go_meet
                        case rel => exact ⟨_, (x8_3), ((wrap64 (Int.tmod a1 3))), (by first | rfl | (simp; done) | (simp [*]; done)), (by first | rfl | (simp; done) | (simp [*]; done)), H', ⟨by have := HK1.out; have := HJ6.out; have := HK3.out; first | omega | exact Nat.le_refl _⟩, ⟨by repeat (first | (with_reducible first | exact HB.out | apply below_alloc | apply pw_below_drewN | apply below_drew1) | exact HB.out)⟩⟩
                    case rest =>
                      clear HC33
                      try clear c1
                      try clear hcv1
                      try clear c2
                      try clear p2
                      try clear q2
                      try clear hx2
                      try clear hcv2
                      try clear c3
                      try clear hcv3
                      try clear c5
                      try clear c6
                      try clear p6
                      try clear c8
                      try clear c8b0
                      try clear c9
                      try clear c10
                      try clear c10b0
                      try clear c11
                      try clear c11b0
                      try clear c12
                      try clear c12b0
                      try clear c12b1
                      try clear c13
                      try clear c13b0
                      try clear c14
                      try clear c14b0
                      try clear c14b1
                      try clear c14b2
                      try clear hcv17
                      try clear c18
                      try clear c18b0
                      try clear c18b1
                      try clear c18b2
                      try clear hcv21
                      try clear c22
                      try clear c22b0
                      try clear c23
                      try clear c23b0
                      try clear c23b1
                      try clear c23b2
                      try clear p23
                      try clear q23
                      try clear hx23
                      try clear hcv26
                      try clear c27
                      try clear c27b0
                      try clear c27b1
                      try clear c27b2
                      try clear hcv30
                      try clear c31
                      try clear c31b0
                      try clear c32
                      try clear c32b0
                      try clear c32b1
                      try clear c32b2
                      try clear c34
                      try clear c34b0
                      try clear c34b1
                      try clear c34b2
                      try clear hx230_0
                      try clear p2
                      try clear p23
                      try clear p230
                      try clear p6
                      try clear q2
                      try clear q23
                      try clear q230
                      obtain ⟨kq, x8_32, x13_32, rfl, rfl, HA, HJ32, HB⟩ := hcut
                      cases kq with
                      | zero => exact absurd HA.out (by simp [marshallinglaw06_LexNumbers.j3])
                      | succ kj32 =>
                        have H := HA.out
                        clear HA
                        simp only [marshallinglaw06_LexNumbers.j3] at H
                        have HC35 := Aside0.mk H
                        clear H
                        go_upto_region 26 with (fail)
                        go_cut [15] (fun v15 wc => ∃ (kq : Nat) (x15_34 : Bool), v15 = .bool x15_34 ∧ Aside0 (marshallinglaw06_LexNumbers.j4 kq a2 true x8_32 x9_1 x15_34 = some r) ∧ Aside0 (kq ≤ kj32) ∧ Aside0 (Below w.heap.size w wc))
                        case first =>
                          have H := HC35.out
                          clear HC35
                          by_cases c36 : x10_1 = true
                          · subst c36
                            have H1 : (if x13_32 = 0 then (marshallinglaw06_LexNumbers.j4 kj32 a2 true x8_32 x9_1 true) else (marshallinglaw06_LexNumbers.j4 kj32 a2 true x8_32 x9_1 ((x8_32.size : Int) == 1))) = some r := by rw [if_pos rfl] at H; exact H
                            clear H
                            have H := H1
                            clear H1
                            by_cases c37 : x13_32 = 0
                            · rw [if_pos c37] at H
                              have c37b0 : (x13_32 == 0) = true := beq_iff_eq.mpr c37
                              have c37b1 : (x13_32 != 0) = false := bne_eq_false_iff_eq.mpr c37
                              clear c37
                              (first | rw [c37b0] | (simp only [i64_w, i32_w]; rw [c37b0]) | skip)
                              have H' := Aside0.mk H
                              clear H
                              go_wp2
                              go_meet
                              case rel => exact ⟨_, (true), (by first | rfl | (simp; done) | (simp [*]; done)), H', ⟨by have := HK1.out; have := HJ6.out; have := HK3.out; have := HJ32.out; first | omega | exact Nat.le_refl _⟩, ⟨by repeat (first | (with_reducible first | exact HB.out | apply below_alloc | apply pw_below_drewN | apply below_drew1) | exact HB.out)⟩⟩
                            · rw [if_neg c37] at H
                              have c37b0 : (x13_32 == 0) = false := beq_eq_false_iff_ne.mpr c37
                              have c37b1 : (x13_32 != 0) = true := bne_iff_ne.mpr c37
                              (first | rw [c37b0] | (simp only [i64_w, i32_w]; rw [c37b0]) | skip)
                              have H' := Aside0.mk H
                              clear H
                              go_wp2
                              go_meet
                              case rel => exact ⟨_, (((x8_32.size : Int) == 1)), (by first | rfl | (simp; done) | (simp [*]; done)), H', ⟨by have := HK1.out; have := HJ6.out; have := HK3.out; have := HJ32.out; first | omega | exact Nat.le_refl _⟩, ⟨by repeat (first | (with_reducible first | exact HB.out | apply below_alloc | apply pw_below_drewN | apply below_drew1) | exact HB.out)⟩⟩
                          · replace c36 := Bool.eq_false_iff.mpr c36
                            subst c36
                            have H1 : (marshallinglaw06_LexNumbers.j4 kj32 a2 true x8_32 x9_1 false) = some r := by rw [if_neg (show ¬ (false = true) by decide)] at H; exact H
                            clear H
                            have H := H1
                            clear H1
                            have H' := Aside0.mk H
                            clear H
                            go_wp2
                            go_meet
                            case rel => exact ⟨_, (false), (by first | rfl | (simp; done) | (simp [*]; done)), H', ⟨by have := HK1.out; have := HJ6.out; have := HK3.out; have := HJ32.out; first | omega | exact Nat.le_refl _⟩, ⟨by repeat (first | (with_reducible first | exact HB.out | apply below_alloc | apply pw_below_drewN | apply below_drew1) | exact HB.out)⟩⟩
                        case rest =>
                          clear HC35
                          try clear c1
                          try clear hcv1
                          try clear c2
                          try clear p2
                          try clear q2
                          try clear hx2
                          try clear hcv2
                          try clear c3
                          try clear hcv3
                          try clear c5
                          try clear c6
                          try clear p6
                          try clear c8
                          try clear c8b0
                          try clear c9
                          try clear c10
                          try clear c10b0
                          try clear c11
                          try clear c11b0
                          try clear c12
                          try clear c12b0
                          try clear c12b1
                          try clear c13
                          try clear c13b0
                          try clear c14
                          try clear c14b0
                          try clear c14b1
                          try clear c14b2
                          try clear hcv17
                          try clear c18
                          try clear c18b0
                          try clear c18b1
                          try clear c18b2
                          try clear hcv21
                          try clear c22
                          try clear c22b0
                          try clear c23
                          try clear c23b0
                          try clear c23b1
                          try clear c23b2
                          try clear p23
                          try clear q23
                          try clear hx23
                          try clear hcv26
                          try clear c27
                          try clear c27b0
                          try clear c27b1
                          try clear c27b2
                          try clear hcv30
                          try clear c31
                          try clear c31b0
                          try clear c32
                          try clear c32b0
                          try clear c32b1
                          try clear c32b2
                          try clear c34
                          try clear c34b0
                          try clear c34b1
                          try clear c34b2
                          try clear c36
                          try clear c37
                          try clear c37b0
                          try clear c37b1
                          try clear hx230_0
                          try clear p2
                          try clear p23
                          try clear p230
                          try clear p6
                          try clear q2
                          try clear q23
                          try clear q230
                          obtain ⟨kq, x15_34, rfl, HA, HJ34, HB⟩ := hcut
                          cases kq with
                          | zero => exact absurd HA.out (by simp [marshallinglaw06_LexNumbers.j4])
                          | succ kj34 =>
                            have H := HA.out
                            clear HA
                            simp only [marshallinglaw06_LexNumbers.j4] at H
                            by_cases c38 : 2 + x8_32.size ≤ 9223372036854775807
                            · rw [if_pos c38] at H
                              have c38b0 := eq_true c38
                              have c38b1 : decide (2 + x8_32.size ≤ 9223372036854775807) = true := decide_eq_true c38
                              try have c38b2 : (9223372036854775807 < 2 + x8_32.size) = False := eq_false (Nat.not_lt.2 c38)
                              have HC39 := Aside0.mk H
                              clear H
                              go_upto_if 85 with (fail)
                              go_cut [16] (fun v16 wc => ∃ (kq : Nat) (x16_38 : ByteArray), v16 = .string x16_38 ∧ Aside0 (marshallinglaw06_LexNumbers.j5 kq a2 true x8_32 x9_1 x15_34 x16_38 = some r) ∧ Aside0 (kq ≤ kj34) ∧ Aside0 (Below w.heap.size w wc))
                              case first =>
                                have H := HC39.out
                                clear HC39
                                by_cases c40 : a2 = true
                                · subst c40
                                  have H1 : (if ((⟨#[59, 32]⟩ : ByteArray) ++ x8_32).size + 1 ≤ 9223372036854775807 then (marshallinglaw06_LexNumbers.j5 kj34 true true x8_32 x9_1 x15_34 (((⟨#[59, 32]⟩ : ByteArray) ++ x8_32) ++ (⟨#[120]⟩ : ByteArray))) else (none)) = some r := by rw [if_pos rfl] at H; exact H
                                  clear H
                                  have H := H1
                                  clear H1
                                  by_cases c41 : ((⟨#[59, 32]⟩ : ByteArray) ++ x8_32).size + 1 ≤ 9223372036854775807
                                  · rw [if_pos c41] at H
                                    have c41b0 := eq_true c41
                                    have c41b1 : decide (((⟨#[59, 32]⟩ : ByteArray) ++ x8_32).size + 1 ≤ 9223372036854775807) = true := decide_eq_true c41
                                    try have c41b2 : (9223372036854775807 < ((⟨#[59, 32]⟩ : ByteArray) ++ x8_32).size + 1) = False := eq_false (Nat.not_lt.2 c41)
                                    try have c41b3 : (9223372036854775807 < 2 + x8_32.size + 1) = False := eq_false (Nat.not_lt.2 (by have h_ := c41; simp only [ByteArray.size_append] at h_; exact h_))
                                    have H' := Aside0.mk H
                                    clear H
                                    go_wp2
                                    go_meet
                                    case rel => exact ⟨_, (((⟨#[59, 32]⟩ : ByteArray) ++ x8_32) ++ (⟨#[120]⟩ : ByteArray)), (by first | rfl | (simp; done) | (simp [*]; done)), H', ⟨by have := HK1.out; have := HJ6.out; have := HK3.out; have := HJ32.out; have := HJ34.out; first | omega | exact Nat.le_refl _⟩, ⟨by repeat (first | (with_reducible first | exact HB.out | apply below_alloc | apply pw_below_drewN | apply below_drew1) | exact HB.out)⟩⟩
                                  · rw [if_neg c41] at H
                                    exact absurd H (by simp)
                                · replace c40 := Bool.eq_false_iff.mpr c40
                                  subst c40
                                  have H1 : (marshallinglaw06_LexNumbers.j5 kj34 false true x8_32 x9_1 x15_34 ((⟨#[59, 32]⟩ : ByteArray) ++ x8_32)) = some r := by rw [if_neg (show ¬ (false = true) by decide)] at H; exact H
                                  clear H
                                  have H := H1
                                  clear H1
                                  have H' := Aside0.mk H
                                  clear H
                                  go_wp2
                                  go_meet
                                  case rel => exact ⟨_, ((⟨#[59, 32]⟩ : ByteArray) ++ x8_32), (by first | rfl | (simp; done) | (simp [*]; done)), H', ⟨by have := HK1.out; have := HJ6.out; have := HK3.out; have := HJ32.out; have := HJ34.out; first | omega | exact Nat.le_refl _⟩, ⟨by repeat (first | (with_reducible first | exact HB.out | apply below_alloc | apply pw_below_drewN | apply below_drew1) | exact HB.out)⟩⟩
                              case rest =>
                                clear HC39
                                try clear c1
                                try clear hcv1
                                try clear c2
                                try clear p2
                                try clear q2
                                try clear hx2
                                try clear hcv2
                                try clear c3
                                try clear hcv3
                                try clear c4
                                try clear c5
                                try clear c6
                                try clear p6
                                try clear c8
                                try clear c8b0
                                try clear c9
                                try clear c10
                                try clear c10b0
                                try clear c11
                                try clear c11b0
                                try clear c12
                                try clear c12b0
                                try clear c12b1
                                try clear c13
                                try clear c13b0
                                try clear c14
                                try clear c14b0
                                try clear c14b1
                                try clear c14b2
                                try clear hcv17
                                try clear c18
                                try clear c18b0
                                try clear c18b1
                                try clear c18b2
                                try clear hcv21
                                try clear c22
                                try clear c22b0
                                try clear c23
                                try clear c23b0
                                try clear c23b1
                                try clear c23b2
                                try clear p23
                                try clear q23
                                try clear hx23
                                try clear hcv26
                                try clear c27
                                try clear c27b0
                                try clear c27b1
                                try clear c27b2
                                try clear hcv30
                                try clear c31
                                try clear c31b0
                                try clear c32
                                try clear c32b0
                                try clear c32b1
                                try clear c32b2
                                try clear c34
                                try clear c34b0
                                try clear c34b1
                                try clear c34b2
                                try clear c36
                                try clear c37
                                try clear c37b0
                                try clear c37b1
                                try clear c38
                                try clear c38b0
                                try clear c38b1
                                try clear c38b2
                                try clear c40
                                try clear c41
                                try clear c41b0
                                try clear c41b1
                                try clear c41b2
                                try clear hx230_0
                                try clear p2
                                try clear p23
                                try clear p230
                                try clear p6
                                try clear q2
                                try clear q23
                                try clear q230
                                obtain ⟨kq, x16_38, rfl, HA, HJ38, HB⟩ := hcut
                                cases kq with
                                | zero => exact absurd HA.out (by simp [marshallinglaw06_LexNumbers.j5])
                                | succ kj38 =>
                                  have H := HA.out
                                  clear HA
                                  simp only [marshallinglaw06_LexNumbers.j5] at H
                                  replace H := Option.bind_eq_some_iff.mp H
                                  obtain ⟨⟨t243, t244, t245⟩, A420, H⟩ := H
                                  replace H : (if x15_34 = true then (if a2 = true then (if true = true then (if t245 = 0 then (if (t243.length : Int) = 3 then (if 1 < (t243.length : Int) then (some (((rd_T40 t243 1).f0) == 2 && ((((rd_T40 t243 1).f1).toList) == x8_32.toList && (((rd_T40 t243 1).f2) == (wrap64 (x9_1)) && (((rd_T40 t243 1).f3) == 2))))) else (none)) else (some false)) else (some false)) else (some false)) else (if true = true then (if t245 = 0 then (if (t243.length : Int) = 2 then (if 1 < (t243.length : Int) then (some (((rd_T40 t243 1).f0) == 2 && ((((rd_T40 t243 1).f1).toList) == x8_32.toList && (((rd_T40 t243 1).f2) == (wrap64 (x9_1)) && (((rd_T40 t243 1).f3) == 2))))) else (none)) else (some false)) else (some false)) else (some false))) else (if true = true then (if t245 = 2 then (if t244 = 2 then (some ((t243.length : Int) == 0)) else (some false)) else (some false)) else (some false))) = some r := H
                                  have A42 := Aside0.mk A420
                                  clear A420
                                  by_cases c43 : x15_34 = true
                                  · subst c43
                                    have H1 : (if a2 = true then (if true = true then (if t245 = 0 then (if (t243.length : Int) = 3 then (if 1 < (t243.length : Int) then (some (((rd_T40 t243 1).f0) == 2 && ((((rd_T40 t243 1).f1).toList) == x8_32.toList && (((rd_T40 t243 1).f2) == (wrap64 (x9_1)) && (((rd_T40 t243 1).f3) == 2))))) else (none)) else (some false)) else (some false)) else (some false)) else (if true = true then (if t245 = 0 then (if (t243.length : Int) = 2 then (if 1 < (t243.length : Int) then (some (((rd_T40 t243 1).f0) == 2 && ((((rd_T40 t243 1).f1).toList) == x8_32.toList && (((rd_T40 t243 1).f2) == (wrap64 (x9_1)) && (((rd_T40 t243 1).f3) == 2))))) else (none)) else (some false)) else (some false)) else (some false))) = some r := by rw [if_pos rfl] at H; exact H
                                    clear H
                                    have H := H1
                                    clear H1
                                    by_cases c44 : a2 = true
                                    · subst c44
                                      have H1 : (if true = true then (if t245 = 0 then (if (t243.length : Int) = 3 then (if 1 < (t243.length : Int) then (some (((rd_T40 t243 1).f0) == 2 && ((((rd_T40 t243 1).f1).toList) == x8_32.toList && (((rd_T40 t243 1).f2) == (wrap64 (x9_1)) && (((rd_T40 t243 1).f3) == 2))))) else (none)) else (some false)) else (some false)) else (some false)) = some r := by rw [if_pos rfl] at H; exact H
                                      clear H
                                      have H := H1
                                      clear H1
                                      have H1 : (if t245 = 0 then (if (t243.length : Int) = 3 then (if 1 < (t243.length : Int) then (some (((rd_T40 t243 1).f0) == 2 && ((((rd_T40 t243 1).f1).toList) == x8_32.toList && (((rd_T40 t243 1).f2) == (wrap64 (x9_1)) && (((rd_T40 t243 1).f3) == 2))))) else (none)) else (some false)) else (some false)) = some r := by first | (rw [if_pos rfl] at H; exact H) | (rw [if_pos trivial] at H; exact H) | exact H | simpa using H
                                      clear H
                                      have H := H1
                                      clear H1
                                      by_cases c45 : t245 = 0
                                      · rw [if_pos c45] at H
                                        have c45b0 : (t245 == 0) = true := beq_iff_eq.mpr c45
                                        have c45b1 : (t245 != 0) = false := bne_eq_false_iff_eq.mpr c45
                                        clear c45
                                        by_cases c46 : (t243.length : Int) = 3
                                        · rw [if_pos c46] at H
                                          have c46b0 : ((t243.length : Int) == 3) = true := beq_iff_eq.mpr c46
                                          have c46b1 : ((t243.length : Int) != 3) = false := bne_eq_false_iff_eq.mpr c46
                                          clear c46
                                          by_cases c47 : 1 < (t243.length : Int)
                                          · rw [if_pos c47] at H
                                            have c47b0 : decide (1 < (t243.length : Int)) = true := decide_eq_true c47
                                            have c47b1 : decide (1 < t243.length) = true := decide_eq_true (by omega)
                                            clear c47
                                            obtain rfl := Option.some.inj H
                                            go_wp2_with (first | ((with_reducible refine gate_callee (f := 11) rfl ?_); refine goesL_ (some 90) rfl rfl Tryd.func11 (by kernel_rfl) rfl #[.string x16_38] rfl (by (try simp only [List.map_toArray, List.map_cons, List.map_nil]); first | done | rfl | (simp only [List.length_drop, List.length_take]; rfl)) ?_; (with_reducible refine (lex_All.calls kj38 x16_38 t243 t244 t245 _ ?side1 A42.out).mono ?_); (case side1 => exact Glob.below HG.out (by repeat (first | (with_reducible first | exact HB.out | apply below_alloc | apply pw_below_drewN | apply below_drew1) | exact HB.out))); rintro e w48 ⟨v246, rfl, ho0, hb⟩; refine ⟨_, rfl, ?_⟩; have n0_ := Aside0.mk (Kd.R_lower ho0 (below_size (by repeat (first | (with_reducible first | exact HB.out | apply below_alloc | apply pw_below_drewN | apply below_drew1) | exact HB.out)))); have n1_ := Aside0.mk (below_step (by repeat (first | (with_reducible first | exact HB.out | apply below_alloc | apply pw_below_drewN | apply below_drew1) | exact HB.out)) hb); clear HB; have HO247 := n0_; have HB := n1_; clear n0_ n1_; (try clear hb); (try clear hb2); (try clear hk); (try clear hi); (try clear ho0); obtain ⟨Ao49, co49, eo49⟩ := Kd.R_slice HO247.out; subst eo49; have p248 : 0 ≤ (1 : Int) := (by omega); have q248 : 1 < (t243.length : Int) := of_decide_eq_true (by first | (with_reducible assumption) | assumption); obtain ⟨ad248, e248, hx248_0, hx248_1, hx248_2, hx248_3⟩ := at_T40 (Kd.R_reads' HO247.out).2.2 1 p248 q248; cases e248; (try simp only [show (1 : Int).toNat = 1 from rfl, Nat.reduceMul, Nat.reduceEqDiff, Go.Addr.add, ↓reduceIte] at hx248_0); (try simp only [show (1 : Int).toNat = 1 from rfl, Nat.reduceMul, Nat.reduceEqDiff, Go.Addr.add, ↓reduceIte] at hx248_1); (try simp only [show (1 : Int).toNat = 1 from rfl, Nat.reduceMul, Nat.reduceEqDiff, Go.Addr.add, ↓reduceIte] at hx248_2); (try simp only [show (1 : Int).toNat = 1 from rfl, Nat.reduceMul, Nat.reduceEqDiff, Go.Addr.add, ↓reduceIte] at hx248_3); have qi248 : (1 < t243.length) = True := eq_true (by omega); (try rw [show ((1 : Int)).toNat = 1 from rfl] at hx248_0); (try rw [show 1 * 4 = 4 from rfl] at hx248_0); (try rw [show ((1 : Int)).toNat = 1 from rfl] at hx248_1); (try rw [show 1 * 4 = 4 from rfl] at hx248_1); (try rw [show ((1 : Int)).toNat = 1 from rfl] at hx248_2); (try rw [show 1 * 4 = 4 from rfl] at hx248_2); (try rw [show ((1 : Int)).toNat = 1 from rfl] at hx248_3); (try rw [show 1 * 4 = 4 from rfl] at hx248_3); replace p248 := eq_true p248; replace q248 := eq_true q248))
                                            go_ret
                                            exact ⟨by first | rfl | (simp [errW_none, errW_some] <;> rfl) | (simp [*, errW_none, errW_some] <;> rfl), by repeat (first | (with_reducible first | exact HB.out | apply below_alloc | apply pw_below_drewN | apply below_drew1) | exact HB.out)⟩
                                          · rw [if_neg c47] at H
                                            exact absurd H (by simp)
                                        · rw [if_neg c46] at H
                                          have c46b0 : ((t243.length : Int) == 3) = false := beq_eq_false_iff_ne.mpr c46
                                          have c46b1 : ((t243.length : Int) != 3) = true := bne_iff_ne.mpr c46
                                          obtain rfl := Option.some.inj H
                                          go_wp2_with (first | ((with_reducible refine gate_callee (f := 11) rfl ?_); refine goesL_ (some 90) rfl rfl Tryd.func11 (by kernel_rfl) rfl #[.string x16_38] rfl (by (try simp only [List.map_toArray, List.map_cons, List.map_nil]); first | done | rfl | (simp only [List.length_drop, List.length_take]; rfl)) ?_; (with_reducible refine (lex_All.calls kj38 x16_38 t243 t244 t245 _ ?side1 A42.out).mono ?_); (case side1 => exact Glob.below HG.out (by repeat (first | (with_reducible first | exact HB.out | apply below_alloc | apply pw_below_drewN | apply below_drew1) | exact HB.out))); rintro e w50 ⟨v246, rfl, ho0, hb⟩; refine ⟨_, rfl, ?_⟩; have n0_ := Aside0.mk (Kd.R_lower ho0 (below_size (by repeat (first | (with_reducible first | exact HB.out | apply below_alloc | apply pw_below_drewN | apply below_drew1) | exact HB.out)))); have n1_ := Aside0.mk (below_step (by repeat (first | (with_reducible first | exact HB.out | apply below_alloc | apply pw_below_drewN | apply below_drew1) | exact HB.out)) hb); clear HB; have HO247 := n0_; have HB := n1_; clear n0_ n1_; (try clear hb); (try clear hb2); (try clear hk); (try clear hi); (try clear ho0); obtain ⟨Ao51, co51, eo51⟩ := Kd.R_slice HO247.out; subst eo51))
                                          go_ret
                                          exact ⟨by first | rfl | (simp [errW_none, errW_some] <;> rfl) | (simp [*, errW_none, errW_some] <;> rfl), by repeat (first | (with_reducible first | exact HB.out | apply below_alloc | apply pw_below_drewN | apply below_drew1) | exact HB.out)⟩
                                      · rw [if_neg c45] at H
                                        have c45b0 : (t245 == 0) = false := beq_eq_false_iff_ne.mpr c45
                                        have c45b1 : (t245 != 0) = true := bne_iff_ne.mpr c45
                                        obtain rfl := Option.some.inj H
                                        go_wp2_with (first | ((with_reducible refine gate_callee (f := 11) rfl ?_); refine goesL_ (some 90) rfl rfl Tryd.func11 (by kernel_rfl) rfl #[.string x16_38] rfl (by (try simp only [List.map_toArray, List.map_cons, List.map_nil]); first | done | rfl | (simp only [List.length_drop, List.length_take]; rfl)) ?_; (with_reducible refine (lex_All.calls kj38 x16_38 t243 t244 t245 _ ?side1 A42.out).mono ?_); (case side1 => exact Glob.below HG.out (by repeat (first | (with_reducible first | exact HB.out | apply below_alloc | apply pw_below_drewN | apply below_drew1) | exact HB.out))); rintro e w52 ⟨v246, rfl, ho0, hb⟩; refine ⟨_, rfl, ?_⟩; have n0_ := Aside0.mk (Kd.R_lower ho0 (below_size (by repeat (first | (with_reducible first | exact HB.out | apply below_alloc | apply pw_below_drewN | apply below_drew1) | exact HB.out)))); have n1_ := Aside0.mk (below_step (by repeat (first | (with_reducible first | exact HB.out | apply below_alloc | apply pw_below_drewN | apply below_drew1) | exact HB.out)) hb); clear HB; have HO247 := n0_; have HB := n1_; clear n0_ n1_; (try clear hb); (try clear hb2); (try clear hk); (try clear hi); (try clear ho0)))
                                        go_ret
                                        exact ⟨by first | rfl | (simp [errW_none, errW_some] <;> rfl) | (simp [*, errW_none, errW_some] <;> rfl), by repeat (first | (with_reducible first | exact HB.out | apply below_alloc | apply pw_below_drewN | apply below_drew1) | exact HB.out)⟩
                                    · replace c44 := Bool.eq_false_iff.mpr c44
                                      subst c44
                                      have H1 : (if true = true then (if t245 = 0 then (if (t243.length : Int) = 2 then (if 1 < (t243.length : Int) then (some (((rd_T40 t243 1).f0) == 2 && ((((rd_T40 t243 1).f1).toList) == x8_32.toList && (((rd_T40 t243 1).f2) == (wrap64 (x9_1)) && (((rd_T40 t243 1).f3) == 2))))) else (none)) else (some false)) else (some false)) else (some false)) = some r := by rw [if_neg (show ¬ (false = true) by decide)] at H; exact H
                                      clear H
                                      have H := H1
                                      clear H1
                                      have H1 : (if t245 = 0 then (if (t243.length : Int) = 2 then (if 1 < (t243.length : Int) then (some (((rd_T40 t243 1).f0) == 2 && ((((rd_T40 t243 1).f1).toList) == x8_32.toList && (((rd_T40 t243 1).f2) == (wrap64 (x9_1)) && (((rd_T40 t243 1).f3) == 2))))) else (none)) else (some false)) else (some false)) = some r := by first | (rw [if_pos rfl] at H; exact H) | (rw [if_pos trivial] at H; exact H) | exact H | simpa using H
                                      clear H
                                      have H := H1
                                      clear H1
                                      by_cases c53 : t245 = 0
                                      · rw [if_pos c53] at H
                                        have c53b0 : (t245 == 0) = true := beq_iff_eq.mpr c53
                                        have c53b1 : (t245 != 0) = false := bne_eq_false_iff_eq.mpr c53
                                        clear c53
                                        by_cases c54 : (t243.length : Int) = 2
                                        · rw [if_pos c54] at H
                                          have c54b0 : ((t243.length : Int) == 2) = true := beq_iff_eq.mpr c54
                                          have c54b1 : ((t243.length : Int) != 2) = false := bne_eq_false_iff_eq.mpr c54
                                          clear c54
                                          by_cases c55 : 1 < (t243.length : Int)
                                          · rw [if_pos c55] at H
                                            have c55b0 : decide (1 < (t243.length : Int)) = true := decide_eq_true c55
                                            have c55b1 : decide (1 < t243.length) = true := decide_eq_true (by omega)
                                            clear c55
                                            obtain rfl := Option.some.inj H
                                            go_wp2_with (first | ((with_reducible refine gate_callee (f := 11) rfl ?_); refine goesL_ (some 90) rfl rfl Tryd.func11 (by kernel_rfl) rfl #[.string x16_38] rfl (by (try simp only [List.map_toArray, List.map_cons, List.map_nil]); first | done | rfl | (simp only [List.length_drop, List.length_take]; rfl)) ?_; (with_reducible refine (lex_All.calls kj38 x16_38 t243 t244 t245 _ ?side1 A42.out).mono ?_); (case side1 => exact Glob.below HG.out (by repeat (first | (with_reducible first | exact HB.out | apply below_alloc | apply pw_below_drewN | apply below_drew1) | exact HB.out))); rintro e w56 ⟨v246, rfl, ho0, hb⟩; refine ⟨_, rfl, ?_⟩; have n0_ := Aside0.mk (Kd.R_lower ho0 (below_size (by repeat (first | (with_reducible first | exact HB.out | apply below_alloc | apply pw_below_drewN | apply below_drew1) | exact HB.out)))); have n1_ := Aside0.mk (below_step (by repeat (first | (with_reducible first | exact HB.out | apply below_alloc | apply pw_below_drewN | apply below_drew1) | exact HB.out)) hb); clear HB; have HO247 := n0_; have HB := n1_; clear n0_ n1_; (try clear hb); (try clear hb2); (try clear hk); (try clear hi); (try clear ho0); obtain ⟨Ao57, co57, eo57⟩ := Kd.R_slice HO247.out; subst eo57; have p249 : 0 ≤ (1 : Int) := (by omega); have q249 : 1 < (t243.length : Int) := of_decide_eq_true (by first | (with_reducible assumption) | assumption); obtain ⟨ad249, e249, hx249_0, hx249_1, hx249_2, hx249_3⟩ := at_T40 (Kd.R_reads' HO247.out).2.2 1 p249 q249; cases e249; (try simp only [show (1 : Int).toNat = 1 from rfl, Nat.reduceMul, Nat.reduceEqDiff, Go.Addr.add, ↓reduceIte] at hx249_0); (try simp only [show (1 : Int).toNat = 1 from rfl, Nat.reduceMul, Nat.reduceEqDiff, Go.Addr.add, ↓reduceIte] at hx249_1); (try simp only [show (1 : Int).toNat = 1 from rfl, Nat.reduceMul, Nat.reduceEqDiff, Go.Addr.add, ↓reduceIte] at hx249_2); (try simp only [show (1 : Int).toNat = 1 from rfl, Nat.reduceMul, Nat.reduceEqDiff, Go.Addr.add, ↓reduceIte] at hx249_3); have qi249 : (1 < t243.length) = True := eq_true (by omega); (try rw [show ((1 : Int)).toNat = 1 from rfl] at hx249_0); (try rw [show 1 * 4 = 4 from rfl] at hx249_0); (try rw [show ((1 : Int)).toNat = 1 from rfl] at hx249_1); (try rw [show 1 * 4 = 4 from rfl] at hx249_1); (try rw [show ((1 : Int)).toNat = 1 from rfl] at hx249_2); (try rw [show 1 * 4 = 4 from rfl] at hx249_2); (try rw [show ((1 : Int)).toNat = 1 from rfl] at hx249_3); (try rw [show 1 * 4 = 4 from rfl] at hx249_3); replace p249 := eq_true p249; replace q249 := eq_true q249))
                                            go_ret
                                            exact ⟨by first | rfl | (simp [errW_none, errW_some] <;> rfl) | (simp [*, errW_none, errW_some] <;> rfl), by repeat (first | (with_reducible first | exact HB.out | apply below_alloc | apply pw_below_drewN | apply below_drew1) | exact HB.out)⟩
                                          · rw [if_neg c55] at H
                                            exact absurd H (by simp)
                                        · rw [if_neg c54] at H
                                          have c54b0 : ((t243.length : Int) == 2) = false := beq_eq_false_iff_ne.mpr c54
                                          have c54b1 : ((t243.length : Int) != 2) = true := bne_iff_ne.mpr c54
                                          obtain rfl := Option.some.inj H
                                          go_wp2_with (first | ((with_reducible refine gate_callee (f := 11) rfl ?_); refine goesL_ (some 90) rfl rfl Tryd.func11 (by kernel_rfl) rfl #[.string x16_38] rfl (by (try simp only [List.map_toArray, List.map_cons, List.map_nil]); first | done | rfl | (simp only [List.length_drop, List.length_take]; rfl)) ?_; (with_reducible refine (lex_All.calls kj38 x16_38 t243 t244 t245 _ ?side1 A42.out).mono ?_); (case side1 => exact Glob.below HG.out (by repeat (first | (with_reducible first | exact HB.out | apply below_alloc | apply pw_below_drewN | apply below_drew1) | exact HB.out))); rintro e w58 ⟨v246, rfl, ho0, hb⟩; refine ⟨_, rfl, ?_⟩; have n0_ := Aside0.mk (Kd.R_lower ho0 (below_size (by repeat (first | (with_reducible first | exact HB.out | apply below_alloc | apply pw_below_drewN | apply below_drew1) | exact HB.out)))); have n1_ := Aside0.mk (below_step (by repeat (first | (with_reducible first | exact HB.out | apply below_alloc | apply pw_below_drewN | apply below_drew1) | exact HB.out)) hb); clear HB; have HO247 := n0_; have HB := n1_; clear n0_ n1_; (try clear hb); (try clear hb2); (try clear hk); (try clear hi); (try clear ho0); obtain ⟨Ao59, co59, eo59⟩ := Kd.R_slice HO247.out; subst eo59))
                                          go_ret
                                          exact ⟨by first | rfl | (simp [errW_none, errW_some] <;> rfl) | (simp [*, errW_none, errW_some] <;> rfl), by repeat (first | (with_reducible first | exact HB.out | apply below_alloc | apply pw_below_drewN | apply below_drew1) | exact HB.out)⟩
                                      · rw [if_neg c53] at H
                                        have c53b0 : (t245 == 0) = false := beq_eq_false_iff_ne.mpr c53
                                        have c53b1 : (t245 != 0) = true := bne_iff_ne.mpr c53
                                        obtain rfl := Option.some.inj H
                                        go_wp2_with (first | ((with_reducible refine gate_callee (f := 11) rfl ?_); refine goesL_ (some 90) rfl rfl Tryd.func11 (by kernel_rfl) rfl #[.string x16_38] rfl (by (try simp only [List.map_toArray, List.map_cons, List.map_nil]); first | done | rfl | (simp only [List.length_drop, List.length_take]; rfl)) ?_; (with_reducible refine (lex_All.calls kj38 x16_38 t243 t244 t245 _ ?side1 A42.out).mono ?_); (case side1 => exact Glob.below HG.out (by repeat (first | (with_reducible first | exact HB.out | apply below_alloc | apply pw_below_drewN | apply below_drew1) | exact HB.out))); rintro e w60 ⟨v246, rfl, ho0, hb⟩; refine ⟨_, rfl, ?_⟩; have n0_ := Aside0.mk (Kd.R_lower ho0 (below_size (by repeat (first | (with_reducible first | exact HB.out | apply below_alloc | apply pw_below_drewN | apply below_drew1) | exact HB.out)))); have n1_ := Aside0.mk (below_step (by repeat (first | (with_reducible first | exact HB.out | apply below_alloc | apply pw_below_drewN | apply below_drew1) | exact HB.out)) hb); clear HB; have HO247 := n0_; have HB := n1_; clear n0_ n1_; (try clear hb); (try clear hb2); (try clear hk); (try clear hi); (try clear ho0)))
                                        go_ret
                                        exact ⟨by first | rfl | (simp [errW_none, errW_some] <;> rfl) | (simp [*, errW_none, errW_some] <;> rfl), by repeat (first | (with_reducible first | exact HB.out | apply below_alloc | apply pw_below_drewN | apply below_drew1) | exact HB.out)⟩
                                  · replace c43 := Bool.eq_false_iff.mpr c43
                                    subst c43
                                    have H1 : (if true = true then (if t245 = 2 then (if t244 = 2 then (some ((t243.length : Int) == 0)) else (some false)) else (some false)) else (some false)) = some r := by rw [if_neg (show ¬ (false = true) by decide)] at H; exact H
                                    clear H
                                    have H := H1
                                    clear H1
                                    have H1 : (if t245 = 2 then (if t244 = 2 then (some ((t243.length : Int) == 0)) else (some false)) else (some false)) = some r := by first | (rw [if_pos rfl] at H; exact H) | (rw [if_pos trivial] at H; exact H) | exact H | simpa using H
                                    clear H
                                    have H := H1
                                    clear H1
                                    by_cases c61 : t245 = 2
                                    · rw [if_pos c61] at H
                                      have c61b0 : (t245 == 2) = true := beq_iff_eq.mpr c61
                                      have c61b1 : (t245 != 2) = false := bne_eq_false_iff_eq.mpr c61
                                      clear c61
                                      by_cases c62 : t244 = 2
                                      · rw [if_pos c62] at H
                                        have c62b0 : (t244 == 2) = true := beq_iff_eq.mpr c62
                                        have c62b1 : (t244 != 2) = false := bne_eq_false_iff_eq.mpr c62
                                        clear c62
                                        obtain rfl := Option.some.inj H
                                        go_wp2_with (first | ((with_reducible refine gate_callee (f := 11) rfl ?_); refine goesL_ (some 90) rfl rfl Tryd.func11 (by kernel_rfl) rfl #[.string x16_38] rfl (by (try simp only [List.map_toArray, List.map_cons, List.map_nil]); first | done | rfl | (simp only [List.length_drop, List.length_take]; rfl)) ?_; (with_reducible refine (lex_All.calls kj38 x16_38 t243 t244 t245 _ ?side1 A42.out).mono ?_); (case side1 => exact Glob.below HG.out (by repeat (first | (with_reducible first | exact HB.out | apply below_alloc | apply pw_below_drewN | apply below_drew1) | exact HB.out))); rintro e w63 ⟨v246, rfl, ho0, hb⟩; refine ⟨_, rfl, ?_⟩; have n0_ := Aside0.mk (Kd.R_lower ho0 (below_size (by repeat (first | (with_reducible first | exact HB.out | apply below_alloc | apply pw_below_drewN | apply below_drew1) | exact HB.out)))); have n1_ := Aside0.mk (below_step (by repeat (first | (with_reducible first | exact HB.out | apply below_alloc | apply pw_below_drewN | apply below_drew1) | exact HB.out)) hb); clear HB; have HO247 := n0_; have HB := n1_; clear n0_ n1_; (try clear hb); (try clear hb2); (try clear hk); (try clear hi); (try clear ho0); obtain ⟨Ao64, co64, eo64⟩ := Kd.R_slice HO247.out; subst eo64))
                                        go_ret
                                        exact ⟨by first | rfl | (simp [errW_none, errW_some] <;> rfl) | (simp [*, errW_none, errW_some] <;> rfl), by repeat (first | (with_reducible first | exact HB.out | apply below_alloc | apply pw_below_drewN | apply below_drew1) | exact HB.out)⟩
                                      · rw [if_neg c62] at H
                                        have c62b0 : (t244 == 2) = false := beq_eq_false_iff_ne.mpr c62
                                        have c62b1 : (t244 != 2) = true := bne_iff_ne.mpr c62
                                        obtain rfl := Option.some.inj H
                                        go_wp2_with (first | ((with_reducible refine gate_callee (f := 11) rfl ?_); refine goesL_ (some 90) rfl rfl Tryd.func11 (by kernel_rfl) rfl #[.string x16_38] rfl (by (try simp only [List.map_toArray, List.map_cons, List.map_nil]); first | done | rfl | (simp only [List.length_drop, List.length_take]; rfl)) ?_; (with_reducible refine (lex_All.calls kj38 x16_38 t243 t244 t245 _ ?side1 A42.out).mono ?_); (case side1 => exact Glob.below HG.out (by repeat (first | (with_reducible first | exact HB.out | apply below_alloc | apply pw_below_drewN | apply below_drew1) | exact HB.out))); rintro e w65 ⟨v246, rfl, ho0, hb⟩; refine ⟨_, rfl, ?_⟩; have n0_ := Aside0.mk (Kd.R_lower ho0 (below_size (by repeat (first | (with_reducible first | exact HB.out | apply below_alloc | apply pw_below_drewN | apply below_drew1) | exact HB.out)))); have n1_ := Aside0.mk (below_step (by repeat (first | (with_reducible first | exact HB.out | apply below_alloc | apply pw_below_drewN | apply below_drew1) | exact HB.out)) hb); clear HB; have HO247 := n0_; have HB := n1_; clear n0_ n1_; (try clear hb); (try clear hb2); (try clear hk); (try clear hi); (try clear ho0)))
                                        go_ret
                                        exact ⟨by first | rfl | (simp [errW_none, errW_some] <;> rfl) | (simp [*, errW_none, errW_some] <;> rfl), by repeat (first | (with_reducible first | exact HB.out | apply below_alloc | apply pw_below_drewN | apply below_drew1) | exact HB.out)⟩
                                    · rw [if_neg c61] at H
                                      have c61b0 : (t245 == 2) = false := beq_eq_false_iff_ne.mpr c61
                                      have c61b1 : (t245 != 2) = true := bne_iff_ne.mpr c61
                                      obtain rfl := Option.some.inj H
                                      go_wp2_with (first | ((with_reducible refine gate_callee (f := 11) rfl ?_); refine goesL_ (some 90) rfl rfl Tryd.func11 (by kernel_rfl) rfl #[.string x16_38] rfl (by (try simp only [List.map_toArray, List.map_cons, List.map_nil]); first | done | rfl | (simp only [List.length_drop, List.length_take]; rfl)) ?_; (with_reducible refine (lex_All.calls kj38 x16_38 t243 t244 t245 _ ?side1 A42.out).mono ?_); (case side1 => exact Glob.below HG.out (by repeat (first | (with_reducible first | exact HB.out | apply below_alloc | apply pw_below_drewN | apply below_drew1) | exact HB.out))); rintro e w66 ⟨v246, rfl, ho0, hb⟩; refine ⟨_, rfl, ?_⟩; have n0_ := Aside0.mk (Kd.R_lower ho0 (below_size (by repeat (first | (with_reducible first | exact HB.out | apply below_alloc | apply pw_below_drewN | apply below_drew1) | exact HB.out)))); have n1_ := Aside0.mk (below_step (by repeat (first | (with_reducible first | exact HB.out | apply below_alloc | apply pw_below_drewN | apply below_drew1) | exact HB.out)) hb); clear HB; have HO247 := n0_; have HB := n1_; clear n0_ n1_; (try clear hb); (try clear hb2); (try clear hk); (try clear hi); (try clear ho0)))
                                      go_ret
                                      exact ⟨by first | rfl | (simp [errW_none, errW_some] <;> rfl) | (simp [*, errW_none, errW_some] <;> rfl), by repeat (first | (with_reducible first | exact HB.out | apply below_alloc | apply pw_below_drewN | apply below_drew1) | exact HB.out)⟩
                            · rw [if_neg c38] at H
                              exact absurd H (by simp)
  · replace c5 := Bool.eq_false_iff.mpr c5
    subst c5
    have H1 : (some false) = some r := by rw [if_neg (show ¬ (false = true) by decide)] at H; exact H
    clear H
    have H := H1
    clear H1
    obtain rfl := Option.some.inj H
    go_enter Tryd.func6, Tryd.ntmps6
    go_wp2_with (first | ((with_reducible refine gate_callee (f := 9) rfl ?_); refine goesL_ (some 21) rfl rfl Tryd.func9 (by kernel_rfl) rfl #[] rfl (by (try simp only [List.map_toArray, List.map_cons, List.map_nil]); first | done | rfl | (simp only [List.length_drop, List.length_take]; rfl)) ?_; (with_reducible refine (marshallinglaw06_examples.calls k  false _ ?side1 A4.out).mono ?_); (case side1 => exact Glob.below HG.out (by repeat (first | (with_reducible first | exact HB.out | apply below_alloc | apply pw_below_drewN | apply below_drew1) | exact HB.out))); rintro e w67 ⟨rfl, hb⟩; refine ⟨_, rfl, ?_⟩; have n0_ := Aside0.mk (below_step (by repeat (first | (with_reducible first | exact HB.out | apply below_alloc | apply pw_below_drewN | apply below_drew1) | exact HB.out)) hb); clear HB; have HB := n0_; clear n0_; (try clear hb); (try clear hb2); (try clear hk); (try clear hi)))
    go_ret
    exact ⟨by first | rfl | (simp [errW_none, errW_some] <;> rfl) | (simp [*, errW_none, errW_some] <;> rfl), by repeat (first | (with_reducible first | exact HB.out | apply below_alloc | apply pw_below_drewN | apply below_drew1) | exact HB.out)⟩

end Go.Proofs.YtjjphfnohgdpjaaDoor.K
