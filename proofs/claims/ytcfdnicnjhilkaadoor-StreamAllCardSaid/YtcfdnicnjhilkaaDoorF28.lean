-- Written by this session's program mprint.py over the kit's printer (with hand-written contracts laid in). Not trusted: Lean checks it.
import Derived.Test.YtcfdnicnjhilkaaDoorF0
import Derived.Test.YtcfdnicnjhilkaaDoorF7
import Derived.Test.YtcfdnicnjhilkaaDoorF10
import Derived.Test.YtcfdnicnjhilkaaDoorF12
import Derived.Test.YtcfdnicnjhilkaaDoorF13
namespace Go.Proofs.YtcfdnicnjhilkaaDoor.F
open Go.RowKit Go.Proofs.YtcfdnicnjhilkaaDoorW.PrintWords Go.Proofs.YtcfdnicnjhilkaaDoorW.PrintLast Go.Proofs.YtcfdnicnjhilkaaDoorW.PrintMore
attribute [local go_sem] max2_int min2_int max_two min_two max_three min_three max_four min_four   -- for this text's walks alone
set_option linter.unusedVariables false
set_option linter.unusedSimpArgs false

/-! ### marshallinglaw03_StreamAll: function 8 -/
mutual
def marshallinglaw03_StreamAll.l0 : Nat → List Int → Int → Bool → List (S28) → Int → Option (Bool)
  | 0, _, _, _, _, _ => none
  | k + 1, x0, x1, x5, x6, x7 => if x7 < (x0.length : Int) then (marshallinglaw03_StreamAll.j1 k x0 x1 x5 x6 x7 (decide (x7 < 10))) else (marshallinglaw03_StreamAll.j1 k x0 x1 x5 x6 x7 false)
def marshallinglaw03_StreamAll.j1 : Nat → List Int → Int → Bool → List (S28) → Int → Bool → Option (Bool)
  | 0, _, _, _, _, _, _ => none
  | k + 1, x0, x1, x5, x6, x7, x25 => if x25 = true then (if 0 ≤ x7 then (if x7 < (x0.length : Int) then (if x7 ≤ (x0.length : Int) then ((marshallinglaw03_own.f k (rd x0 x7) (x0.drop (x7 : Int).toNat)).bind fun bt306 => (if (rd x0 x7) > 127 then (if 0 ≤ (mn (bt306.1.size : Int) 15) then (if (mn (bt306.1.size : Int) 15) ≤ (bt306.1.size : Int) then ((some (([(⟨#[48]⟩ : ByteArray), (⟨#[49]⟩ : ByteArray), (⟨#[50]⟩ : ByteArray), (⟨#[51]⟩ : ByteArray), (⟨#[52]⟩ : ByteArray), (⟨#[53]⟩ : ByteArray), (⟨#[54]⟩ : ByteArray), (⟨#[55]⟩ : ByteArray), (⟨#[56]⟩ : ByteArray), (⟨#[57]⟩ : ByteArray)] : List ByteArray) : List ByteArray)).bind fun y312 => (if x7 < (y312.length : Int) then (if (bt306.1.extract 0 ((mn (bt306.1.size : Int) 15) : Int).toNat).size + (rdOf ByteArray.empty y312 x7).size ≤ 9223372036854775807 then (if x6.length < 3518437208883 then (marshallinglaw03_StreamAll.l0 k x0 x1 x5 (x6 ++ [(⟨(bt306.1.extract 0 ((mn (bt306.1.size : Int) 15) : Int).toNat) ++ (rdOf ByteArray.empty y312 x7), bt306.2⟩ : S28)]) (wrap64 (x7 + 1))) else (none)) else (none)) else (none))) else (none)) else (none)) else (if x6.length < 3518437208883 then (marshallinglaw03_StreamAll.l0 k x0 x1 x5 (x6 ++ [(⟨bt306.1, bt306.2⟩ : S28)]) (wrap64 (x7 + 1))) else (none)))) else (none)) else (none)) else (none)) else (if x1 > 250 then (marshallinglaw03_StreamAll.j2 k x1 x5 x6 (decide ((x6.length : Int) > 0))) else (marshallinglaw03_StreamAll.j2 k x1 x5 x6 false))
def marshallinglaw03_StreamAll.j2 : Nat → Int → Bool → List (S28) → Bool → Option (Bool)
  | 0, _, _, _, _ => none
  | k + 1, x1, x5, x6, x64 => if x64 = true then (if (x6.length : Int) = 0 then (none) else (if 0 ≤ (Int.tmod (wrap64 (x1)) (x6.length : Int)) then (if (Int.tmod (wrap64 (x1)) (x6.length : Int)) < (x6.length : Int) then (marshallinglaw03_StreamAll.j3 k x1 x5 (x6.set ((Int.tmod (wrap64 (x1)) (x6.length : Int)) : Int).toNat (⟨(⟨#[66, 89]⟩ : ByteArray), (rd_T28 x6 (Int.tmod (wrap64 (x1)) (x6.length : Int))).f1⟩ : S28))) else (none)) else (none))) else (marshallinglaw03_StreamAll.j3 k x1 x5 x6)
def marshallinglaw03_StreamAll.j3 : Nat → Int → Bool → List (S28) → Option (Bool)
  | 0, _, _, _ => none
  | k + 1, x1, x5, x6 => (stream_All.f k x6).bind fun t323 => (marshallinglaw03_StreamAll.l1 k x1 x5 x6 t323 true 0)
def marshallinglaw03_StreamAll.l1 : Nat → Int → Bool → List (S28) → Int → Bool → Int → Option (Bool)
  | 0, _, _, _, _, _, _ => none
  | k + 1, x1, x5, x6, x9, x10, x11 => if x11 < (x6.length : Int) then (marshallinglaw03_StreamAll.l2 k x1 x5 x6 x9 x10 x11 0) else (if (x6.length : Int) > 8 then (if x5 = true then (some (x9 == 4)) else (some false)) else (marshallinglaw03_StreamAll.l3 k x1 x5 x6 x9 x10 0))
def marshallinglaw03_StreamAll.l2 : Nat → Int → Bool → List (S28) → Int → Bool → Int → Int → Option (Bool)
  | 0, _, _, _, _, _, _, _ => none
  | k + 1, x1, x5, x6, x9, x10, x11, x12 => if x12 < x11 then (if x10 = true then (if 0 ≤ x11 then (if x11 < (x6.length : Int) then (if 0 ≤ x12 then (if x12 < (x6.length : Int) then (marshallinglaw03_StreamAll.l2 k x1 x5 x6 x9 (((rd_T28 x6 x11).f0).toList != ((rd_T28 x6 x12).f0).toList) x11 (wrap64 (x12 + 1))) else (none)) else (none)) else (none)) else (none)) else (marshallinglaw03_StreamAll.l2 k x1 x5 x6 x9 false x11 (wrap64 (x12 + 1)))) else (marshallinglaw03_StreamAll.l1 k x1 x5 x6 x9 x10 (wrap64 (x11 + 1)))
def marshallinglaw03_StreamAll.l3 : Nat → Int → Bool → List (S28) → Int → Bool → Int → Option (Bool)
  | 0, _, _, _, _, _, _ => none
  | k + 1, x1, x5, x6, x9, x10, x13 => if x13 < (x6.length : Int) then (if x9 = 0 then (if 0 ≤ x13 then ((stream_Right.f k ((rd_T28 x6 x13).f0) ((rd_T28 x6 x13).f1)).bind fun t327 => (if t327 = 0 then ((stream_Find.f x6 ((rd_T28 x6 x13).f0)).bind fun t329 => (if t329 = x13 then (marshallinglaw03_StreamAll.l3 k x1 x5 x6 x9 x10 (wrap64 (x13 + 1))) else (some false))) else (some false))) else (none)) else (marshallinglaw03_StreamAll.l3 k x1 x5 x6 x9 x10 (wrap64 (x13 + 1)))) else (if x1 > 250 then (if x5 = true then (if x10 = true then (some ((x9 == 0) == (!(decide ((x6.length : Int) > 0))))) else (some ((x9 == 0) == false))) else (some false)) else (if x5 = true then (if x10 = true then (some ((x9 == 0) == (!false))) else (some ((x9 == 0) == false))) else (some false)))
end
def marshallinglaw03_StreamAll.f (k : Nat) (l0 : List Int) (a1 : Int) : Option (Bool) := (marshallinglaw03_examples.f).bind fun t303 => (if t303 = true then (marshallinglaw03_StreamAll.l0 k l0 a1 t303 ([] : List (S28)) 0) else (some false))
theorem marshallinglaw03_StreamAll.mono_l : ∀ k, (∀ y0 y1 y2 y3 y4, LeO (marshallinglaw03_StreamAll.l0 k y0 y1 y2 y3 y4) (marshallinglaw03_StreamAll.l0 (k + 1) y0 y1 y2 y3 y4)) ∧ (∀ y0 y1 y2 y3 y4 y5, LeO (marshallinglaw03_StreamAll.j1 k y0 y1 y2 y3 y4 y5) (marshallinglaw03_StreamAll.j1 (k + 1) y0 y1 y2 y3 y4 y5)) ∧ (∀ y0 y1 y2 y3, LeO (marshallinglaw03_StreamAll.j2 k y0 y1 y2 y3) (marshallinglaw03_StreamAll.j2 (k + 1) y0 y1 y2 y3)) ∧ (∀ y0 y1 y2, LeO (marshallinglaw03_StreamAll.j3 k y0 y1 y2) (marshallinglaw03_StreamAll.j3 (k + 1) y0 y1 y2)) ∧ (∀ y0 y1 y2 y3 y4 y5, LeO (marshallinglaw03_StreamAll.l1 k y0 y1 y2 y3 y4 y5) (marshallinglaw03_StreamAll.l1 (k + 1) y0 y1 y2 y3 y4 y5)) ∧ (∀ y0 y1 y2 y3 y4 y5 y6, LeO (marshallinglaw03_StreamAll.l2 k y0 y1 y2 y3 y4 y5 y6) (marshallinglaw03_StreamAll.l2 (k + 1) y0 y1 y2 y3 y4 y5 y6)) ∧ (∀ y0 y1 y2 y3 y4 y5, LeO (marshallinglaw03_StreamAll.l3 k y0 y1 y2 y3 y4 y5) (marshallinglaw03_StreamAll.l3 (k + 1) y0 y1 y2 y3 y4 y5))
  | 0 => ⟨fun _ _ _ _ _ r h => by simp [marshallinglaw03_StreamAll.l0] at h, fun _ _ _ _ _ _ r h => by simp [marshallinglaw03_StreamAll.j1] at h, fun _ _ _ _ r h => by simp [marshallinglaw03_StreamAll.j2] at h, fun _ _ _ r h => by simp [marshallinglaw03_StreamAll.j3] at h, fun _ _ _ _ _ _ r h => by simp [marshallinglaw03_StreamAll.l1] at h, fun _ _ _ _ _ _ _ r h => by simp [marshallinglaw03_StreamAll.l2] at h, fun _ _ _ _ _ _ r h => by simp [marshallinglaw03_StreamAll.l3] at h⟩
  | k + 1 => by
    obtain ⟨ih0, ih1, ih2, ih3, ih4, ih5, ih6⟩ := marshallinglaw03_StreamAll.mono_l k
    refine ⟨?_, ?_, ?_, ?_, ?_, ?_, ?_⟩
    · intro y0 y1 y2 y3 y4
      unfold marshallinglaw03_StreamAll.l0
      repeat' first
      | (with_reducible exact ih0 _ _ _ _ _)
      | (with_reducible exact ih1 _ _ _ _ _ _)
      | (with_reducible exact ih2 _ _ _ _)
      | (with_reducible exact ih3 _ _ _)
      | (with_reducible exact ih4 _ _ _ _ _ _)
      | (with_reducible exact ih5 _ _ _ _ _ _ _)
      | (with_reducible exact ih6 _ _ _ _ _ _)
      | (with_reducible exact marshallinglaw03_own.mono _ _ _)
      | (with_reducible exact stream_All.mono _ _)
      | (with_reducible exact stream_Right.mono _ _ _)
      | (with_reducible exact LeO.refl _)
      | (with_reducible exact LeO.none _)
      | (with_reducible refine LeO.ite ?_ ?_)
      | (with_reducible refine LeO.bind ?_ (fun _ => ?_))
      | exact ih0 _ _ _ _ _
      | exact ih1 _ _ _ _ _ _
      | exact ih2 _ _ _ _
      | exact ih3 _ _ _
      | exact ih4 _ _ _ _ _ _
      | exact ih5 _ _ _ _ _ _ _
      | exact ih6 _ _ _ _ _ _
      | exact marshallinglaw03_own.mono _ _ _
      | exact stream_All.mono _ _
      | exact stream_Right.mono _ _ _
      | exact LeO.none _
      | refine LeO.ite ?_ ?_
      | refine LeO.bind ?_ (fun _ => ?_)
    · intro y0 y1 y2 y3 y4 y5
      unfold marshallinglaw03_StreamAll.j1
      repeat' first
      | (with_reducible exact ih0 _ _ _ _ _)
      | (with_reducible exact ih1 _ _ _ _ _ _)
      | (with_reducible exact ih2 _ _ _ _)
      | (with_reducible exact ih3 _ _ _)
      | (with_reducible exact ih4 _ _ _ _ _ _)
      | (with_reducible exact ih5 _ _ _ _ _ _ _)
      | (with_reducible exact ih6 _ _ _ _ _ _)
      | (with_reducible exact marshallinglaw03_own.mono _ _ _)
      | (with_reducible exact stream_All.mono _ _)
      | (with_reducible exact stream_Right.mono _ _ _)
      | (with_reducible exact LeO.refl _)
      | (with_reducible exact LeO.none _)
      | (with_reducible refine LeO.ite ?_ ?_)
      | (with_reducible refine LeO.bind ?_ (fun _ => ?_))
      | exact ih0 _ _ _ _ _
      | exact ih1 _ _ _ _ _ _
      | exact ih2 _ _ _ _
      | exact ih3 _ _ _
      | exact ih4 _ _ _ _ _ _
      | exact ih5 _ _ _ _ _ _ _
      | exact ih6 _ _ _ _ _ _
      | exact marshallinglaw03_own.mono _ _ _
      | exact stream_All.mono _ _
      | exact stream_Right.mono _ _ _
      | exact LeO.none _
      | refine LeO.ite ?_ ?_
      | refine LeO.bind ?_ (fun _ => ?_)
    · intro y0 y1 y2 y3
      unfold marshallinglaw03_StreamAll.j2
      repeat' first
      | (with_reducible exact ih0 _ _ _ _ _)
      | (with_reducible exact ih1 _ _ _ _ _ _)
      | (with_reducible exact ih2 _ _ _ _)
      | (with_reducible exact ih3 _ _ _)
      | (with_reducible exact ih4 _ _ _ _ _ _)
      | (with_reducible exact ih5 _ _ _ _ _ _ _)
      | (with_reducible exact ih6 _ _ _ _ _ _)
      | (with_reducible exact marshallinglaw03_own.mono _ _ _)
      | (with_reducible exact stream_All.mono _ _)
      | (with_reducible exact stream_Right.mono _ _ _)
      | (with_reducible exact LeO.refl _)
      | (with_reducible exact LeO.none _)
      | (with_reducible refine LeO.ite ?_ ?_)
      | (with_reducible refine LeO.bind ?_ (fun _ => ?_))
      | exact ih0 _ _ _ _ _
      | exact ih1 _ _ _ _ _ _
      | exact ih2 _ _ _ _
      | exact ih3 _ _ _
      | exact ih4 _ _ _ _ _ _
      | exact ih5 _ _ _ _ _ _ _
      | exact ih6 _ _ _ _ _ _
      | exact marshallinglaw03_own.mono _ _ _
      | exact stream_All.mono _ _
      | exact stream_Right.mono _ _ _
      | exact LeO.none _
      | refine LeO.ite ?_ ?_
      | refine LeO.bind ?_ (fun _ => ?_)
    · intro y0 y1 y2
      unfold marshallinglaw03_StreamAll.j3
      repeat' first
      | (with_reducible exact ih0 _ _ _ _ _)
      | (with_reducible exact ih1 _ _ _ _ _ _)
      | (with_reducible exact ih2 _ _ _ _)
      | (with_reducible exact ih3 _ _ _)
      | (with_reducible exact ih4 _ _ _ _ _ _)
      | (with_reducible exact ih5 _ _ _ _ _ _ _)
      | (with_reducible exact ih6 _ _ _ _ _ _)
      | (with_reducible exact marshallinglaw03_own.mono _ _ _)
      | (with_reducible exact stream_All.mono _ _)
      | (with_reducible exact stream_Right.mono _ _ _)
      | (with_reducible exact LeO.refl _)
      | (with_reducible exact LeO.none _)
      | (with_reducible refine LeO.ite ?_ ?_)
      | (with_reducible refine LeO.bind ?_ (fun _ => ?_))
      | exact ih0 _ _ _ _ _
      | exact ih1 _ _ _ _ _ _
      | exact ih2 _ _ _ _
      | exact ih3 _ _ _
      | exact ih4 _ _ _ _ _ _
      | exact ih5 _ _ _ _ _ _ _
      | exact ih6 _ _ _ _ _ _
      | exact marshallinglaw03_own.mono _ _ _
      | exact stream_All.mono _ _
      | exact stream_Right.mono _ _ _
      | exact LeO.none _
      | refine LeO.ite ?_ ?_
      | refine LeO.bind ?_ (fun _ => ?_)
    · intro y0 y1 y2 y3 y4 y5
      unfold marshallinglaw03_StreamAll.l1
      repeat' first
      | (with_reducible exact ih0 _ _ _ _ _)
      | (with_reducible exact ih1 _ _ _ _ _ _)
      | (with_reducible exact ih2 _ _ _ _)
      | (with_reducible exact ih3 _ _ _)
      | (with_reducible exact ih4 _ _ _ _ _ _)
      | (with_reducible exact ih5 _ _ _ _ _ _ _)
      | (with_reducible exact ih6 _ _ _ _ _ _)
      | (with_reducible exact marshallinglaw03_own.mono _ _ _)
      | (with_reducible exact stream_All.mono _ _)
      | (with_reducible exact stream_Right.mono _ _ _)
      | (with_reducible exact LeO.refl _)
      | (with_reducible exact LeO.none _)
      | (with_reducible refine LeO.ite ?_ ?_)
      | (with_reducible refine LeO.bind ?_ (fun _ => ?_))
      | exact ih0 _ _ _ _ _
      | exact ih1 _ _ _ _ _ _
      | exact ih2 _ _ _ _
      | exact ih3 _ _ _
      | exact ih4 _ _ _ _ _ _
      | exact ih5 _ _ _ _ _ _ _
      | exact ih6 _ _ _ _ _ _
      | exact marshallinglaw03_own.mono _ _ _
      | exact stream_All.mono _ _
      | exact stream_Right.mono _ _ _
      | exact LeO.none _
      | refine LeO.ite ?_ ?_
      | refine LeO.bind ?_ (fun _ => ?_)
    · intro y0 y1 y2 y3 y4 y5 y6
      unfold marshallinglaw03_StreamAll.l2
      repeat' first
      | (with_reducible exact ih0 _ _ _ _ _)
      | (with_reducible exact ih1 _ _ _ _ _ _)
      | (with_reducible exact ih2 _ _ _ _)
      | (with_reducible exact ih3 _ _ _)
      | (with_reducible exact ih4 _ _ _ _ _ _)
      | (with_reducible exact ih5 _ _ _ _ _ _ _)
      | (with_reducible exact ih6 _ _ _ _ _ _)
      | (with_reducible exact marshallinglaw03_own.mono _ _ _)
      | (with_reducible exact stream_All.mono _ _)
      | (with_reducible exact stream_Right.mono _ _ _)
      | (with_reducible exact LeO.refl _)
      | (with_reducible exact LeO.none _)
      | (with_reducible refine LeO.ite ?_ ?_)
      | (with_reducible refine LeO.bind ?_ (fun _ => ?_))
      | exact ih0 _ _ _ _ _
      | exact ih1 _ _ _ _ _ _
      | exact ih2 _ _ _ _
      | exact ih3 _ _ _
      | exact ih4 _ _ _ _ _ _
      | exact ih5 _ _ _ _ _ _ _
      | exact ih6 _ _ _ _ _ _
      | exact marshallinglaw03_own.mono _ _ _
      | exact stream_All.mono _ _
      | exact stream_Right.mono _ _ _
      | exact LeO.none _
      | refine LeO.ite ?_ ?_
      | refine LeO.bind ?_ (fun _ => ?_)
    · intro y0 y1 y2 y3 y4 y5
      unfold marshallinglaw03_StreamAll.l3
      repeat' first
      | (with_reducible exact ih0 _ _ _ _ _)
      | (with_reducible exact ih1 _ _ _ _ _ _)
      | (with_reducible exact ih2 _ _ _ _)
      | (with_reducible exact ih3 _ _ _)
      | (with_reducible exact ih4 _ _ _ _ _ _)
      | (with_reducible exact ih5 _ _ _ _ _ _ _)
      | (with_reducible exact ih6 _ _ _ _ _ _)
      | (with_reducible exact marshallinglaw03_own.mono _ _ _)
      | (with_reducible exact stream_All.mono _ _)
      | (with_reducible exact stream_Right.mono _ _ _)
      | (with_reducible exact LeO.refl _)
      | (with_reducible exact LeO.none _)
      | (with_reducible refine LeO.ite ?_ ?_)
      | (with_reducible refine LeO.bind ?_ (fun _ => ?_))
      | exact ih0 _ _ _ _ _
      | exact ih1 _ _ _ _ _ _
      | exact ih2 _ _ _ _
      | exact ih3 _ _ _
      | exact ih4 _ _ _ _ _ _
      | exact ih5 _ _ _ _ _ _ _
      | exact ih6 _ _ _ _ _ _
      | exact marshallinglaw03_own.mono _ _ _
      | exact stream_All.mono _ _
      | exact stream_Right.mono _ _ _
      | exact LeO.none _
      | refine LeO.ite ?_ ?_
      | refine LeO.bind ?_ (fun _ => ?_)
theorem marshallinglaw03_StreamAll.mono : ∀ a0 a1 k, LeO (marshallinglaw03_StreamAll.f k a0 a1) (marshallinglaw03_StreamAll.f (k + 1) a0 a1) := by
  intro a0 a1 k
  obtain ⟨ih0, ih1, ih2, ih3, ih4, ih5, ih6⟩ := marshallinglaw03_StreamAll.mono_l k
  unfold marshallinglaw03_StreamAll.f
  repeat' first
      | (with_reducible exact ih0 _ _ _ _ _)
      | (with_reducible exact ih1 _ _ _ _ _ _)
      | (with_reducible exact ih2 _ _ _ _)
      | (with_reducible exact ih3 _ _ _)
      | (with_reducible exact ih4 _ _ _ _ _ _)
      | (with_reducible exact ih5 _ _ _ _ _ _ _)
      | (with_reducible exact ih6 _ _ _ _ _ _)
      | (with_reducible exact marshallinglaw03_own.mono _ _ _)
      | (with_reducible exact stream_All.mono _ _)
      | (with_reducible exact stream_Right.mono _ _ _)
      | (with_reducible exact LeO.refl _)
      | (with_reducible exact LeO.none _)
      | (with_reducible refine LeO.ite ?_ ?_)
      | (with_reducible refine LeO.bind ?_ (fun _ => ?_))
      | exact ih0 _ _ _ _ _
      | exact ih1 _ _ _ _ _ _
      | exact ih2 _ _ _ _
      | exact ih3 _ _ _
      | exact ih4 _ _ _ _ _ _
      | exact ih5 _ _ _ _ _ _ _
      | exact ih6 _ _ _ _ _ _
      | exact marshallinglaw03_own.mono _ _ _
      | exact stream_All.mono _ _
      | exact stream_Right.mono _ _ _
      | exact LeO.none _
      | refine LeO.ite ?_ ?_
      | refine LeO.bind ?_ (fun _ => ?_)
def marshallinglaw03_StreamAll.T8 : Bool × List (List Nat × List Nat) := (true, [([], []), ([], []), ([0, 1], [0, 1]), ([2], [2]), ([], []), ([], []), ([4, 5], [4, 5]), ([3, 6], [3, 6]), ([], []), ([8, 7, 7, 0, 1, 2, 3, 4, 5, 6, 7, 8], [7, 8])])
def marshallinglaw03_StreamAll.B8 : List Nat := [0, 0, 3, 7, 0, 0, 48, 127, 0, 511]
theorem marshallinglaw03_StreamAll.tab8 : rtab .any (opsOf Tryd.f8 8) = marshallinglaw03_StreamAll.T8 := by kernel_rfl
theorem marshallinglaw03_StreamAll.bits8 : waitsOk marshallinglaw03_StreamAll.T8.2 marshallinglaw03_StreamAll.B8 = true := by kernel_rfl
def marshallinglaw03_StreamAll.T10 : Bool × List (List Nat × List Nat) := (true, [([], []), ([0], [0]), ([], []), ([2], [2]), ([3], [3]), ([4], [4]), ([1, 5], [1, 5]), ([], []), ([], []), ([7, 8], [7, 8]), ([9], [9]), ([6, 10], [6, 10]), ([0, 1, 2, 3, 4, 5, 6, 7, 8, 9, 10, 11], []), ([12, 11, 0, 1, 2, 3, 4, 5, 6, 7, 8, 9, 10, 11], [11, 12])])
def marshallinglaw03_StreamAll.B10 : List Nat := [0, 1, 0, 4, 12, 28, 63, 0, 0, 384, 896, 2047, 4095, 8191]
theorem marshallinglaw03_StreamAll.tab10 : rtab .any (opsOf Tryd.f8 10) = marshallinglaw03_StreamAll.T10 := by kernel_rfl
theorem marshallinglaw03_StreamAll.bits10 : waitsOk marshallinglaw03_StreamAll.T10.2 marshallinglaw03_StreamAll.B10 = true := by kernel_rfl
def marshallinglaw03_StreamAll.T22 : Bool × List (List Nat × List Nat) := (true, [([], []), ([0], [0]), ([1], [1]), ([1], [1]), ([2, 3, 1], [1, 2, 3]), ([4, 1], [1, 4]), ([5, 1], [1, 5]), ([1], [1]), ([1], [1]), ([7, 8, 1], [1, 7, 8]), ([9, 1], [1, 9]), ([10, 1], [1, 10]), ([6, 11, 1], [1, 6, 11]), ([1, 12], [1, 12]), ([13, 1, 0, 1, 2, 3, 4, 5, 6, 7, 8, 9, 10, 11, 12, 13], [0, 13])])
def marshallinglaw03_StreamAll.B22 : List Nat := [0, 1, 3, 3, 15, 31, 63, 3, 3, 387, 899, 1923, 4095, 8191, 16383]
theorem marshallinglaw03_StreamAll.tab22 : rtab .any (opsOf Tryd.f8 22) = marshallinglaw03_StreamAll.T22 := by kernel_rfl
theorem marshallinglaw03_StreamAll.bits22 : waitsOk marshallinglaw03_StreamAll.T22.2 marshallinglaw03_StreamAll.B22 = true := by kernel_rfl
set_option maxHeartbeats 8000000 in
set_option maxRecDepth 100000 in
theorem marshallinglaw03_StreamAll.calls (k : Nat) (A0 : Option Addr) (c0 : Nat) (l0 : List Int) (a1 : Int) (r : Bool) (w : World) (hr0 : Kd.C (Kd.int .u8) w A0 l0.length l0) (hc0 : l0.length ≤ c0) (hG : Glob w) (h : marshallinglaw03_StreamAll.f k l0 a1 = some r) :
    Calls Tryd.prog 8 #[.slice A0 l0.length c0, .int .u8 a1] w fun e w' => e = .returned (.bool r) ∧ Below w.heap.size w w' := by
  have hu28 := Tryd.underlying28
  have HG := Aside0.mk hG
  clear hG
  have HR0 := Aside0.mk hr0
  have HC0 := Aside0.mk hc0
  clear hr0 hc0
  have HB := Aside0.mk (Below.refl w.heap.size w)
  have H : ((marshallinglaw03_examples.f).bind fun t303 => (if t303 = true then (marshallinglaw03_StreamAll.l0 k l0 a1 t303 ([] : List (S28)) 0) else (some false))) = some r := h
  clear h
  replace H := Option.bind_eq_some_iff.mp H
  obtain ⟨t303, A30, H⟩ := H
  replace H : (if t303 = true then (marshallinglaw03_StreamAll.l0 k l0 a1 t303 ([] : List (S28)) 0) else (some false)) = some r := H
  have A3 := Aside0.mk A30
  clear A30
  by_cases c4 : t303 = true
  · subst c4
    have H1 : (marshallinglaw03_StreamAll.l0 k l0 a1 true ([] : List (S28)) 0) = some r := by rw [if_pos rfl] at H; exact H
    clear H
    have H := H1
    clear H1
    have H' := Aside0.mk H
    clear H
    go_enter Tryd.func8, Tryd.ntmps8
    go_wp2_with (first | ((with_reducible refine gate_callee (f := 9) rfl ?_); refine goesL_ (some 15) rfl rfl Tryd.func9 (by kernel_rfl) rfl #[] rfl (by (try simp only [List.map_toArray, List.map_cons, List.map_nil]); first | done | rfl | (simp only [List.length_drop, List.length_take]; rfl)) ?_; (with_reducible refine (marshallinglaw03_examples.calls  true _ ?side1 A3.out).mono ?_); (case side1 => exact Glob.below HG.out (by repeat (first | (with_reducible first | exact HB.out | apply below_alloc | apply pw_below_drewN | apply below_drew1) | exact HB.out))); rintro e w5 ⟨rfl, hb⟩; refine ⟨_, rfl, ?_⟩; have n0_ := Aside0.mk (below_step (by repeat (first | (with_reducible first | exact HB.out | apply below_alloc | apply pw_below_drewN | apply below_drew1) | exact HB.out)) hb); clear HB; have HB := n0_; clear n0_; (try clear hb); (try clear hb2); (try clear hk); (try clear hi)))
    go_loopg [6, 7] k (fun kq v6 v7 w' => ∃ (x6_1 : List (S28)) (x7_1 : Int), v7 = .int .i64 x7_1 ∧ Aside0 (marshallinglaw03_StreamAll.l0 kq l0 a1 true x6_1 x7_1 = some r) ∧ Aside0 (kq ≤ k) ∧ Aside0 (Kd.S k28 28 w' w.heap.size (fun _ => True) v6 x6_1) ∧ Aside0 (Below w.heap.size w w'))
    case atStart => exact ⟨(([] : List (S28))), (0), (by first | rfl | (simp; done) | (simp [*]; done)), H', ⟨Nat.le_refl _⟩, ⟨by first | exact Kd.S_nil _ _ _ _ _ | exact Kd.N_nil _ _ _ _ _ | exact Kd.V_nil _ _ _ _ _ | exact Kd.Q_nil _ _ _ _ _ | exact Kd.R_nil _ _ _ _ _⟩, ⟨by repeat (first | (with_reducible first | exact HB.out | apply below_alloc | apply pw_below_drewN | apply below_drew1) | exact HB.out)⟩⟩
    case round =>
      clear H'
      try clear p2
      try clear c4
      obtain ⟨x6_1, x7_1, rfl, HA, HK1, HO_6, HB⟩ := hrel
      cases gk with
      | zero => exact absurd HA.out (by simp [marshallinglaw03_StreamAll.l0])
      | succ k1 =>
        have H := HA.out
        clear HA
        simp only [marshallinglaw03_StreamAll.l0] at H
        have HC6 := Aside0.mk H
        clear H
        go_upto_region 6 with (fail)
        go_cut [25] (fun v25 wc => ∃ (kq : Nat) (x25_5 : Bool), v25 = .bool x25_5 ∧ Aside0 (marshallinglaw03_StreamAll.j1 kq l0 a1 true x6_1 x7_1 x25_5 = some r) ∧ Aside0 (kq ≤ k1) ∧ Aside0 (Kd.S k28 28 wc w.heap.size (fun _ => True) u6 x6_1) ∧ Aside0 (Below w.heap.size w wc))
        case first =>
          have H := HC6.out
          clear HC6
          by_cases c7 : x7_1 < (l0.length : Int)
          · rw [if_pos c7] at H
            have c7b0 : decide (x7_1 < (l0.length : Int)) = true := decide_eq_true c7
            clear c7
            (first | rw [c7b0] | (simp only [i64_w, i32_w]; rw [c7b0]) | skip)
            have H' := Aside0.mk H
            clear H
            go_wp2
            go_meet
            case rel => exact ⟨_, (decide (x7_1 < 10)), (by first | rfl | (simp; done) | (simp [*]; done)), H', ⟨by have := HK1.out; first | omega | exact Nat.le_refl _⟩, ⟨by (with_reducible repeat (first | apply Kd.S_alloc | apply Kd.S_drewN | apply Kd.S_drew)); exact HO_6.out⟩, ⟨by repeat (first | (with_reducible first | exact HB.out | apply below_alloc | apply pw_below_drewN | apply below_drew1) | exact HB.out)⟩⟩
          · rw [if_neg c7] at H
            have c7b0 : decide (x7_1 < (l0.length : Int)) = false := decide_eq_false c7
            clear c7
            (first | rw [c7b0] | (simp only [i64_w, i32_w]; rw [c7b0]) | skip)
            have H' := Aside0.mk H
            clear H
            go_wp2
            go_meet
            case rel => exact ⟨_, (false), (by first | rfl | (simp; done) | (simp [*]; done)), H', ⟨by have := HK1.out; first | omega | exact Nat.le_refl _⟩, ⟨by (with_reducible repeat (first | apply Kd.S_alloc | apply Kd.S_drewN | apply Kd.S_drew)); exact HO_6.out⟩, ⟨by repeat (first | (with_reducible first | exact HB.out | apply below_alloc | apply pw_below_drewN | apply below_drew1) | exact HB.out)⟩⟩
        case rest =>
          clear HC6
          try clear p2
          try clear c4
          try clear c7
          try clear c7b0
          try clear p2
          obtain ⟨kq, x25_5, rfl, HA, HJ5, HO_6, HB⟩ := hcut
          cases kq with
          | zero => exact absurd HA.out (by simp [marshallinglaw03_StreamAll.j1])
          | succ kj5 =>
            have H := HA.out
            clear HA
            simp only [marshallinglaw03_StreamAll.j1] at H
            by_cases c8 : x25_5 = true
            · subst c8
              have H1 : (if 0 ≤ x7_1 then (if x7_1 < (l0.length : Int) then (if x7_1 ≤ (l0.length : Int) then ((marshallinglaw03_own.f kj5 (rd l0 x7_1) (l0.drop (x7_1 : Int).toNat)).bind fun bt306 => (if (rd l0 x7_1) > 127 then (if 0 ≤ (mn (bt306.1.size : Int) 15) then (if (mn (bt306.1.size : Int) 15) ≤ (bt306.1.size : Int) then ((some (([(⟨#[48]⟩ : ByteArray), (⟨#[49]⟩ : ByteArray), (⟨#[50]⟩ : ByteArray), (⟨#[51]⟩ : ByteArray), (⟨#[52]⟩ : ByteArray), (⟨#[53]⟩ : ByteArray), (⟨#[54]⟩ : ByteArray), (⟨#[55]⟩ : ByteArray), (⟨#[56]⟩ : ByteArray), (⟨#[57]⟩ : ByteArray)] : List ByteArray) : List ByteArray)).bind fun y312 => (if x7_1 < (y312.length : Int) then (if (bt306.1.extract 0 ((mn (bt306.1.size : Int) 15) : Int).toNat).size + (rdOf ByteArray.empty y312 x7_1).size ≤ 9223372036854775807 then (if x6_1.length < 3518437208883 then (marshallinglaw03_StreamAll.l0 kj5 l0 a1 true (x6_1 ++ [(⟨(bt306.1.extract 0 ((mn (bt306.1.size : Int) 15) : Int).toNat) ++ (rdOf ByteArray.empty y312 x7_1), bt306.2⟩ : S28)]) (wrap64 (x7_1 + 1))) else (none)) else (none)) else (none))) else (none)) else (none)) else (if x6_1.length < 3518437208883 then (marshallinglaw03_StreamAll.l0 kj5 l0 a1 true (x6_1 ++ [(⟨bt306.1, bt306.2⟩ : S28)]) (wrap64 (x7_1 + 1))) else (none)))) else (none)) else (none)) else (none)) = some r := by rw [if_pos rfl] at H; exact H
              clear H
              have H := H1
              clear H1
              by_cases c9 : 0 ≤ x7_1
              · rw [if_pos c9] at H
                have c9b0 : decide (0 ≤ x7_1) = true := decide_eq_true c9
                clear c9
                by_cases c10 : x7_1 < (l0.length : Int)
                · rw [if_pos c10] at H
                  have c10b0 : decide (x7_1 < (l0.length : Int)) = true := decide_eq_true c10
                  clear c10
                  have c11b0 := eq_true (of_decide_eq_true (by first | (with_reducible assumption) | assumption) : 0 ≤ x7_1)
                  by_cases c12 : x7_1 ≤ (l0.length : Int)
                  · rw [if_pos c12] at H
                    have c12b0 := eq_true c12
                    have c12b1 : decide (x7_1 ≤ (l0.length : Int)) = true := decide_eq_true c12
                    clear c12
                    replace H := Option.bind_eq_some_iff.mp H
                    obtain ⟨⟨t306, t307⟩, A130, H⟩ := H
                    replace H : (if (rd l0 x7_1) > 127 then (if 0 ≤ (mn (t306.size : Int) 15) then (if (mn (t306.size : Int) 15) ≤ (t306.size : Int) then ((some (([(⟨#[48]⟩ : ByteArray), (⟨#[49]⟩ : ByteArray), (⟨#[50]⟩ : ByteArray), (⟨#[51]⟩ : ByteArray), (⟨#[52]⟩ : ByteArray), (⟨#[53]⟩ : ByteArray), (⟨#[54]⟩ : ByteArray), (⟨#[55]⟩ : ByteArray), (⟨#[56]⟩ : ByteArray), (⟨#[57]⟩ : ByteArray)] : List ByteArray) : List ByteArray)).bind fun y312 => (if x7_1 < (y312.length : Int) then (if (t306.extract 0 ((mn (t306.size : Int) 15) : Int).toNat).size + (rdOf ByteArray.empty y312 x7_1).size ≤ 9223372036854775807 then (if x6_1.length < 3518437208883 then (marshallinglaw03_StreamAll.l0 kj5 l0 a1 true (x6_1 ++ [(⟨(t306.extract 0 ((mn (t306.size : Int) 15) : Int).toNat) ++ (rdOf ByteArray.empty y312 x7_1), t307⟩ : S28)]) (wrap64 (x7_1 + 1))) else (none)) else (none)) else (none))) else (none)) else (none)) else (if x6_1.length < 3518437208883 then (marshallinglaw03_StreamAll.l0 kj5 l0 a1 true (x6_1 ++ [(⟨t306, t307⟩ : S28)]) (wrap64 (x7_1 + 1))) else (none))) = some r := H
                    have A13 := Aside0.mk A130
                    clear A130
                    by_cases c14 : (rd l0 x7_1) > 127
                    · rw [if_pos c14] at H
                      have c14b0 : decide (127 < (rd l0 x7_1)) = true := decide_eq_true c14
                      clear c14
                      obtain ⟨ji15, hji15⟩ : ∃ j_ : Int, (mn (t306.size : Int) 15) = j_ := ⟨_, rfl⟩
                      replace H : (if 0 ≤ (ji15) then (if (ji15) ≤ (t306.size : Int) then ((some (([(⟨#[48]⟩ : ByteArray), (⟨#[49]⟩ : ByteArray), (⟨#[50]⟩ : ByteArray), (⟨#[51]⟩ : ByteArray), (⟨#[52]⟩ : ByteArray), (⟨#[53]⟩ : ByteArray), (⟨#[54]⟩ : ByteArray), (⟨#[55]⟩ : ByteArray), (⟨#[56]⟩ : ByteArray), (⟨#[57]⟩ : ByteArray)] : List ByteArray) : List ByteArray)).bind fun y312 => (if x7_1 < (y312.length : Int) then (if (t306.extract 0 ((ji15) : Int).toNat).size + (rdOf ByteArray.empty y312 x7_1).size ≤ 9223372036854775807 then (if x6_1.length < 3518437208883 then (marshallinglaw03_StreamAll.l0 kj5 l0 a1 true (x6_1 ++ [(⟨(t306.extract 0 ((ji15) : Int).toNat) ++ (rdOf ByteArray.empty y312 x7_1), t307⟩ : S28)]) (wrap64 (x7_1 + 1))) else (none)) else (none)) else (none))) else (none)) else (none)) = some r := by first | (rw [hji15] at H; exact H) | (simp only [hji15] at H ⊢; exact H)
                      (try rw [hji15] at A13)
                      (try (have hji15h : ji15 ≤ 15 := by (rw [← hji15]; unfold mn; (repeat' split) <;> omega)))
                      (try (have hji15g : ji15 ≤ 64 := by omega))
                      (try (have hji15l : 0 ≤ ji15 := by (rw [← hji15]; unfold mn; (repeat' split) <;> omega)))
                      (try (have hji15m : 0 ≤ ji15 := by omega))
                      have hji15_ : (if 15 < (t306.size : Int) then 15 else (t306.size : Int)) = ji15 := hji15
                      by_cases c16 : 0 ≤ (ji15)
                      · rw [if_pos c16] at H
                        have c16b0 := eq_true c16
                        have c16b1 : decide (0 ≤ (ji15)) = true := decide_eq_true c16
                        clear c16
                        by_cases c17 : (ji15) ≤ (t306.size : Int)
                        · rw [if_pos c17] at H
                          have c17b0 := eq_true c17
                          have c17b1 : decide ((ji15) ≤ (t306.size : Int)) = true := decide_eq_true c17
                          clear c17
                          obtain ⟨y312, hy312⟩ : ∃ y_ : List ByteArray, y_ = (([(⟨#[48]⟩ : ByteArray), (⟨#[49]⟩ : ByteArray), (⟨#[50]⟩ : ByteArray), (⟨#[51]⟩ : ByteArray), (⟨#[52]⟩ : ByteArray), (⟨#[53]⟩ : ByteArray), (⟨#[54]⟩ : ByteArray), (⟨#[55]⟩ : ByteArray), (⟨#[56]⟩ : ByteArray), (⟨#[57]⟩ : ByteArray)] : List ByteArray)) := ⟨_, rfl⟩
                          replace H : (if x7_1 < (y312.length : Int) then (if (t306.extract 0 ((ji15) : Int).toNat).size + (rdOf ByteArray.empty y312 x7_1).size ≤ 9223372036854775807 then (if x6_1.length < 3518437208883 then (marshallinglaw03_StreamAll.l0 kj5 l0 a1 true (x6_1 ++ [(⟨(t306.extract 0 ((ji15) : Int).toNat) ++ (rdOf ByteArray.empty y312 x7_1), t307⟩ : S28)]) (wrap64 (x7_1 + 1))) else (none)) else (none)) else (none)) = some r := by first | (rw [hy312]; with_reducible exact H) | (have H2_ := (Option.bind_some _ _).symm.trans H; rw [hy312]; with_reducible exact H2_) | (have H2_ := (Option.bind_some _ _).symm.trans H; with_reducible exact H2_) | with_reducible exact H | (rw [hy312]; exact H) | exact H
                          have Ny312 := Aside0.mk hy312
                          clear hy312
                          by_cases c18 : x7_1 < (y312.length : Int)
                          · rw [if_pos c18] at H
                            have c18b0 : decide (x7_1 < (y312.length : Int)) = true := decide_eq_true c18
                            clear c18
                            by_cases c19 : (t306.extract 0 ((ji15) : Int).toNat).size + (rdOf ByteArray.empty y312 x7_1).size ≤ 9223372036854775807
                            · rw [if_pos c19] at H
                              have c19b0 := eq_true c19
                              have c19b1 : decide ((t306.extract 0 ((ji15) : Int).toNat).size + (rdOf ByteArray.empty y312 x7_1).size ≤ 9223372036854775807) = true := decide_eq_true c19
                              try have c19b2 : (9223372036854775807 < (t306.extract 0 ((ji15) : Int).toNat).size + (rdOf ByteArray.empty y312 x7_1).size) = False := eq_false (Nat.not_lt.2 c19)
                              try have c19b4 : (9223372036854775807 < ((ji15) : Int).toNat + (rdOf ByteArray.empty y312 x7_1).size) = False := eq_false (Nat.not_lt.2 (by have h_ := c19; simp only [ByteArray.size_append, ByteArray.size_extract] at h_; first | omega | (simp only [decide_eq_true_eq] at *; omega)))
                              by_cases c20 : x6_1.length < 3518437208883
                              · rw [if_pos c20] at H
                                have LMc20 := Aside0.mk c20
                                clear c20
                                obtain ⟨y316, hy316⟩ : ∃ y_ : List (S28), y_ = (x6_1 ++ [(⟨(t306.extract 0 ((ji15) : Int).toNat) ++ (rdOf ByteArray.empty y312 x7_1), t307⟩ : S28)]) := ⟨_, rfl⟩
                                replace H : (marshallinglaw03_StreamAll.l0 kj5 l0 a1 true y316 (wrap64 (x7_1 + 1))) = some r := by first | (rw [hy316]; with_reducible exact H) | (have H2_ := (Option.bind_some _ _).symm.trans H; rw [hy316]; with_reducible exact H2_) | (have H2_ := (Option.bind_some _ _).symm.trans H; with_reducible exact H2_) | with_reducible exact H | (rw [hy316]; exact H) | exact H
                                have Ny316 := Aside0.mk hy316
                                clear hy316
                                have H' := Aside0.mk H
                                clear H
                                try go_wp2
                                have n0_ := Aside0.mk (Kd.S_drew HO_6.out)
                                have n1_ := Aside0.mk (below_drew1 HB.out)
                                clear HO_6
                                clear HB
                                have HO_6 := n0_
                                have HB := n1_
                                clear n0_ n1_
                                have p304 : 0 ≤ (x7_1 : Int) := of_decide_eq_true (by first | (with_reducible assumption) | assumption)
                                have q304 : x7_1 < (l0.length : Int) := of_decide_eq_true (by first | (with_reducible assumption) | assumption)
                                obtain ⟨ad304, e304, hx304_0⟩ := Kd.at_int HR0.out x7_1 p304 q304
                                have hw304_0 := hx304_0
                                cases e304
                                replace hx304_0 := (HB.out.cell (World.block_lt_of_cell? w _ hx304_0)).trans hx304_0
                                replace p304 := eq_true p304
                                replace q304 := eq_true q304
                                obtain ⟨i022, hi022, _, hsz22, _⟩ := info_parts info5
                                obtain ⟨A22, hcut22, hA22, hC22⟩ := print_drop_of (P := Tryd.prog) (Value.int .u8) 0 23 5 .i64 Tryd.underlying23 hi022 hsz22 (some ad304) c0 l0 x7_1 (of_decide_eq_true (by first | (with_reducible assumption) | assumption)) (of_decide_eq_true (by first | (with_reducible assumption) | assumption)) HC0.out
                                have HR305 := Aside0.mk (Kd.C_of_reads (h1 := fun _ => rfl) (hA22 _ (Kd.reads_of_C HR0.out)))
                                have HC305 := Aside0.mk hC22
                                clear hA22 hC22 hi022 hsz22
                                refine start_ (n := 10) (S := fun w' => w'.cell? (ad304.add (x7_1).toNat) = some (.int .u8 (rd l0 x7_1))) (ds := []) #[false, false, false, false, false, false, false, false, false, false] (by kernel_rfl) rfl rfl (((HB.out.cell (World.block_lt_of_cell? w _ hw304_0)).trans hw304_0)) (fun hHeld => ?_); refine with_tabW marshallinglaw03_StreamAll.tab8 marshallinglaw03_StreamAll.bits8 (fun HT_ HW_ => ?_)
                                generalize wc.drew = w21 at HO_6 HB HR305 hx304_0 hHeld ⊢
                                refine pure_ (i := 0) (N := some 28) (v := ?_) (a' := ?_) #[true, false, false, false, false, false, false, false, false, false] rfl rfl (any_of HT_.out (by kernel_rfl)) (fun _ _ _ h => h) (Or.inl ⟨by rfl, ?_⟩) ?_ ?_
                                rotate_left
                                · intro w'
                                  go_simp
                                  with_reducible rfl
                                rotate_left
                                · simp only [Act.put, List.setIfInBounds_toArray, List.set_cons_zero, List.set_cons_succ, i64_w, i32_w]
                                  rfl
                                refine pure_ (i := 1) (N := some 29) (v := ?_) (a' := ?_) #[true, true, false, false, false, false, false, false, false, false] rfl rfl (any_of HT_.out (by kernel_rfl)) (fun _ _ _ h => h) (Or.inl ⟨by rfl, ?_⟩) ?_ ?_
                                rotate_left
                                · intro w'
                                  go_simp
                                  with_reducible rfl
                                rotate_left
                                · simp only [Act.put, List.setIfInBounds_toArray, List.set_cons_zero, List.set_cons_succ, i64_w, i32_w]
                                  rfl
                                refine pure_ (i := 2) (N := some 30) (v := ?_) (a' := ?_) #[true, true, true, false, false, false, false, false, false, false] rfl rfl (any_of HT_.out (by kernel_rfl)) (fun _ _ _ h => h) (Or.inl ⟨by rfl, ?_⟩) ?_ ?_
                                rotate_left
                                · intro w'
                                  go_simp
                                  with_reducible rfl
                                rotate_left
                                · simp only [Act.put, List.setIfInBounds_toArray, List.set_cons_zero, List.set_cons_succ, i64_w, i32_w]
                                  rfl
                                refine pure_ (i := 4) (N := some 32) (v := ?_) (a' := ?_) #[true, true, true, false, true, false, false, false, false, false] rfl rfl (any_of HT_.out (by kernel_rfl)) (fun _ _ _ h => h) (Or.inl ⟨by rfl, ?_⟩) ?_ ?_
                                rotate_left
                                · intro w'
                                  go_simp
                                  with_reducible rfl
                                rotate_left
                                · simp only [Act.put, List.setIfInBounds_toArray, List.set_cons_zero, List.set_cons_succ, i64_w, i32_w]
                                  rfl
                                refine pure_ (i := 5) (N := some 33) (v := ?_) (a' := ?_) #[true, true, true, false, true, true, false, false, false, false] rfl rfl (any_of HT_.out (by kernel_rfl)) (fun _ _ _ h => h) (Or.inl ⟨by rfl, ?_⟩) ?_ ?_
                                rotate_left
                                · intro w'
                                  go_simp
                                  with_reducible rfl
                                rotate_left
                                · simp only [Act.put, List.setIfInBounds_toArray, List.set_cons_zero, List.set_cons_succ, i64_w, i32_w]
                                  rfl
                                refine pure_ (i := 6) (N := some 34) (v := ?_) (a' := ?_) #[true, true, true, false, true, true, true, false, false, false] rfl rfl (any_of HT_.out (by kernel_rfl)) (fun _ _ _ h => h) (Or.inl ⟨by rfl, ?_⟩) ?_ ?_
                                rotate_left
                                · intro w'
                                  go_simp
                                  with_reducible rfl
                                rotate_left
                                · simp only [Act.put, List.setIfInBounds_toArray, List.set_cons_zero, List.set_cons_succ, i64_w, i32_w]
                                  rfl
                                refine take_ (i := 3) (N := some 31) (v := ?_) (a' := ?_) #[true, true, true, true, true, true, true, false, false, false] rfl rfl (take_ofW HT_.out HW_.out (by kernel_rfl)) (fun _ _ _ h => h) (Or.inl ⟨by rfl, ?_⟩) hHeld ?_ ?_
                                rotate_left
                                · intro w' s0
                                  go_simp
                                  with_reducible rfl
                                rotate_left
                                · simp only [Act.put, List.setIfInBounds_toArray, List.set_cons_zero, List.set_cons_succ, i64_w, i32_w]
                                  rfl
                                refine join_ (σ := Value × Nat) 1 #[true, true, true, true, true, true, true, true, true, false] (fun s_ => [(35, .agg #[.string t306, s_.1]), (8, .pointer (some ⟨s_.2, 0, none⟩))]) (fun s_ w' => (w'.cell? (ad304.add (x7_1).toNat) = some (.int .u8 (rd l0 x7_1))) ∧ (Kd.R k60 60 w' w.heap.size (fun _ => True) s_.1 t307) ∧ (Kd.S k28 28 w' w.heap.size (fun k_ => some k_ ≠ (s_.1 : Value).ownBlock ∧ k_ ≠ s_.2) u6 x6_1) ∧ (w'.heap[s_.2]? = some (.cells #[.string (⟨#[]⟩ : ByteArray), .slice none 0 0] 28 (0, 0))) ∧ (w.heap.size ≤ s_.2) ∧ (w.heap.size ≤ s_.2) ∧ (Below w.heap.size w w')) ?_ ?_
                                rotate_left
                                · intro hCont
                                  refine two_ (i := 7) (j := 8) (Ni := some 35) (Nj := some 8) #[true, true, true, true, true, true, true, true, false, false] #[true, true, true, true, true, true, true, false, true, false] rfl rfl rfl rfl (two_of HT_.out (by kernel_rfl)) (by decide) (by decide) (fun K hK => ?_) (fun K hK => ?_)
                                  · skip
                                    refine goes_ Tryd.func10 (by kernel_rfl) rfl #[.int .u8 (rd l0 x7_1), .slice A22 (l0.drop (x7_1 : Int).toNat).length (c0 - x7_1.toNat)] (by rfl) rfl rfl (by (try simp only [List.map_toArray, List.map_cons, List.map_nil]); first | done | (rw [show (l0.drop (x7_1 : Int).toNat).length = (l0.length - x7_1.toNat) from List.length_drop] <;> rfl) | rfl | (simp only [List.length_drop, List.length_take]; rfl)) ?_
                                    with_reducible refine (marshallinglaw03_own.calls kj5 (rd l0 x7_1) _ _ (l0.drop (x7_1 : Int).toNat) t306 t307 _ ?side1 ?side2 A13.out).mono ?_
                                    (case side1 => repeat (first | exact (Kd.C_below HR305.out HB.out) | (with_reducible refine Kd.C_alloc ?_ _) | (with_reducible refine Kd.C_drewN ?_ _) | (with_reducible refine Kd.C_drew ?_)))
                                    (case side2 => exact HC305.out)
                                    rintro e w23 ⟨v308, rfl, ho0, hb⟩
                                    refine ⟨_, rfl, ?_⟩
                                    have n0_ := Aside0.mk (Kd.S_elder' (by (with_reducible repeat (first | apply Kd.S_alloc | apply Kd.S_drewN | apply Kd.S_drew)); exact HO_6.out) (Kd.R_base ho0) hb)
                                    have n1_ := Aside0.mk (Kd.R_lower ho0 (below_size (by repeat (first | (with_reducible first | exact HB.out | apply below_alloc | apply pw_below_drewN | apply below_drew1) | exact HB.out))))
                                    have n2_ := Aside0.mk (below_step (by repeat (first | (with_reducible first | exact HB.out | apply below_alloc | apply pw_below_drewN | apply below_drew1) | exact HB.out)) hb)
                                    clear HO_6
                                    clear HB
                                    have HO_6 := n0_
                                    have HO309 := n1_
                                    have HB := n2_
                                    clear n0_ n1_ n2_
                                    (try clear hb)
                                    (try clear hb2)
                                    (try clear hk)
                                    (try clear hi)
                                    (try clear ho0)
                                    refine hK.out _ _ (((HB.out.cell (World.block_lt_of_cell? w _ hw304_0)).trans hw304_0)) (fun hHeld => ?_)
                                    clear hK K
                                    refine norm_ (a' := ?_) ?_ ?_
                                    rotate_left
                                    · show Act.put _ (some 35) _ = _
                                      simp only [Act.put, List.setIfInBounds_toArray, List.set_cons_zero, List.set_cons_succ, i64_w, i32_w]
                                      rfl
                                    refine one_ (i := 8) (N := some 8) #[true, true, true, true, true, true, true, true, true, false] rfl rfl (one_of HT_.out (by kernel_rfl)) (by decide) (fun K hK => ?_)
                                    refine box_step ?hg (N := 8) ?hd (cs := #[.string (⟨#[]⟩ : ByteArray), .slice none 0 0]) (t := 28) ?hr ?_; (case hd => rfl); (case hg => rfl); (case hr => first | (go_simp; done) | (go_simp; rfl))
                                    intro gb310 hg w24 hbox hb
                                    have n0_ := Aside0.mk (Kd.S_below (Kd.S_elderB (by (with_reducible repeat (first | apply Kd.S_alloc | apply Kd.S_drewN | apply Kd.S_drew)); exact HO_6.out) gb310 (Nat.le_of_eq hg.symm)) hb)
                                    have n1_ := Aside0.mk (Kd.R_below (by (with_reducible repeat (first | apply Kd.R_alloc | apply Kd.R_drewN | apply Kd.R_drew)); exact HO309.out) hb)
                                    have n2_ := Aside0.mk (below_step (by repeat (first | (with_reducible first | exact HB.out | apply below_alloc | apply pw_below_drewN | apply below_drew1) | exact HB.out)) hb)
                                    have n3_ := Aside0.mk (hbox)
                                    have n4_ := Aside0.mk ((by rw [hg]; exact (below_size (by repeat (first | (with_reducible first | exact HB.out | apply below_alloc | apply pw_below_drewN | apply below_drew1) | exact HB.out))) : w.heap.size ≤ gb310))
                                    have n5_ := Aside0.mk ((by rw [hg]; exact (below_size (by repeat (first | (with_reducible first | exact HB.out | apply below_alloc | apply pw_below_drewN | apply below_drew1) | exact HB.out))) : w.heap.size ≤ gb310))
                                    clear HO_6
                                    clear HO309
                                    clear HB
                                    have HO_6 := n0_
                                    have HO309 := n1_
                                    have HB := n2_
                                    have BK310 := n3_
                                    have GW310 := n4_
                                    have GE310 := n5_
                                    clear n0_ n1_ n2_ n3_ n4_ n5_
                                    clear hb hbox hg
                                    refine hK.out _ _ (((HB.out.cell (World.block_lt_of_cell? w _ hw304_0)).trans hw304_0)) (fun hHeld => ?_)
                                    clear hK K
                                    refine norm_ (a' := ?_) ?_ ?_
                                    rotate_left
                                    · show Act.put _ (some 8) _ = _
                                      simp only [Act.put, List.setIfInBounds_toArray, List.set_cons_zero, List.set_cons_succ, i64_w, i32_w]
                                      rfl
                                    exact norm_ (by simp only [putAll, Act.put, List.setIfInBounds_toArray, List.set_cons_zero, List.set_cons_succ]) (hCont (v308, gb310) _ ⟨hHeld, (by (with_reducible repeat (first | apply Kd.R_alloc | apply Kd.R_drewN | apply Kd.R_drew)); exact HO309.out), (by (with_reducible repeat (first | apply Kd.S_alloc | apply Kd.S_drewN | apply Kd.S_drew)); exact Kd.S_mono HO_6.out (fun _ hk => ⟨hk.1.2, hk.2⟩)), (by (with_reducible repeat (first | refine blk_drewN ?_ _ | refine blk_drew ?_ | refine blk_alloc ?_ _)); exact BK310.out), GW310.out, GE310.out, (by repeat (first | (with_reducible first | exact HB.out | apply below_alloc | apply pw_below_drewN | apply below_drew1 | refine below_set ?_ GE310.out) | exact HB.out))⟩)
                                  · skip
                                    refine box_step ?hg (N := 8) ?hd (cs := #[.string (⟨#[]⟩ : ByteArray), .slice none 0 0]) (t := 28) ?hr ?_; (case hd => rfl); (case hg => rfl); (case hr => first | (go_simp; done) | (go_simp; rfl))
                                    intro gb310 hg w23 hbox hb
                                    have n0_ := Aside0.mk (Kd.S_below (Kd.S_elderB (by (with_reducible repeat (first | apply Kd.S_alloc | apply Kd.S_drewN | apply Kd.S_drew)); exact HO_6.out) gb310 (Nat.le_of_eq hg.symm)) hb)
                                    have n1_ := Aside0.mk (below_step (by repeat (first | (with_reducible first | exact HB.out | apply below_alloc | apply pw_below_drewN | apply below_drew1) | exact HB.out)) hb)
                                    have n2_ := Aside0.mk (hbox)
                                    have n3_ := Aside0.mk ((by rw [hg]; exact (below_size (by repeat (first | (with_reducible first | exact HB.out | apply below_alloc | apply pw_below_drewN | apply below_drew1) | exact HB.out))) : w.heap.size ≤ gb310))
                                    have n4_ := Aside0.mk ((by rw [hg]; exact (below_size (by repeat (first | (with_reducible first | exact HB.out | apply below_alloc | apply pw_below_drewN | apply below_drew1) | exact HB.out))) : w.heap.size ≤ gb310))
                                    clear HO_6
                                    clear HB
                                    have HO_6 := n0_
                                    have HB := n1_
                                    have BK310 := n2_
                                    have GW310 := n3_
                                    have GE310 := n4_
                                    clear n0_ n1_ n2_ n3_ n4_
                                    clear hb hbox hg
                                    refine hK.out _ _ (((HB.out.cell (World.block_lt_of_cell? w _ hw304_0)).trans hw304_0)) (fun hHeld => ?_)
                                    clear hK K
                                    refine norm_ (a' := ?_) ?_ ?_
                                    rotate_left
                                    · show Act.put _ (some 8) _ = _
                                      simp only [Act.put, List.setIfInBounds_toArray, List.set_cons_zero, List.set_cons_succ, i64_w, i32_w]
                                      rfl
                                    refine one_ (i := 7) (N := some 35) #[true, true, true, true, true, true, true, true, true, false] rfl rfl (one_of HT_.out (by kernel_rfl)) (by decide) (fun K hK => ?_)
                                    refine goes_ Tryd.func10 (by kernel_rfl) rfl #[.int .u8 (rd l0 x7_1), .slice A22 (l0.drop (x7_1 : Int).toNat).length (c0 - x7_1.toNat)] (by rfl) rfl rfl (by (try simp only [List.map_toArray, List.map_cons, List.map_nil]); first | done | (rw [show (l0.drop (x7_1 : Int).toNat).length = (l0.length - x7_1.toNat) from List.length_drop] <;> rfl) | rfl | (simp only [List.length_drop, List.length_take]; rfl)) ?_
                                    with_reducible refine (marshallinglaw03_own.calls kj5 (rd l0 x7_1) _ _ (l0.drop (x7_1 : Int).toNat) t306 t307 _ ?side1 ?side2 A13.out).mono ?_
                                    (case side1 => repeat (first | exact (Kd.C_below HR305.out HB.out) | (with_reducible refine Kd.C_alloc ?_ _) | (with_reducible refine Kd.C_drewN ?_ _) | (with_reducible refine Kd.C_drew ?_)))
                                    (case side2 => exact HC305.out)
                                    rintro e w24 ⟨v308, rfl, ho0, hb⟩
                                    refine ⟨_, rfl, ?_⟩
                                    have n0_ := Aside0.mk (Kd.S_elder' (by (with_reducible repeat (first | apply Kd.S_alloc | apply Kd.S_drewN | apply Kd.S_drew)); exact HO_6.out) (Kd.R_base ho0) hb)
                                    have n1_ := Aside0.mk (Kd.R_lower ho0 (below_size (by repeat (first | (with_reducible first | exact HB.out | apply below_alloc | apply pw_below_drewN | apply below_drew1 | refine below_set ?_ GE310.out) | exact HB.out))))
                                    have n2_ := Aside0.mk (blk_below (g := gb310) (o := .cells #[.string (⟨#[]⟩ : ByteArray), .slice none 0 0] 28 (0, 0)) (by (with_reducible repeat (first | refine blk_drewN ?_ _ | refine blk_drew ?_ | refine blk_alloc ?_ _)); exact BK310.out) hb)
                                    have n3_ := Aside0.mk (below_step (by repeat (first | (with_reducible first | exact HB.out | apply below_alloc | apply pw_below_drewN | apply below_drew1 | refine below_set ?_ GE310.out) | exact HB.out)) hb)
                                    clear HO_6
                                    clear BK310
                                    clear HB
                                    have HO_6 := n0_
                                    have HO309 := n1_
                                    have BK310 := n2_
                                    have HB := n3_
                                    clear n0_ n1_ n2_ n3_
                                    (try clear hb)
                                    (try clear hb2)
                                    (try clear hk)
                                    (try clear hi)
                                    (try clear ho0)
                                    refine hK.out _ _ (((HB.out.cell (World.block_lt_of_cell? w _ hw304_0)).trans hw304_0)) (fun hHeld => ?_)
                                    clear hK K
                                    refine norm_ (a' := ?_) ?_ ?_
                                    rotate_left
                                    · show Act.put _ (some 35) _ = _
                                      simp only [Act.put, List.setIfInBounds_toArray, List.set_cons_zero, List.set_cons_succ, i64_w, i32_w]
                                      rfl
                                    exact norm_ (by simp only [putAll, Act.put, List.setIfInBounds_toArray, List.set_cons_zero, List.set_cons_succ]) (hCont (v308, gb310) _ ⟨hHeld, (by (with_reducible repeat (first | apply Kd.R_alloc | apply Kd.R_drewN | apply Kd.R_drew)); exact HO309.out), (by (with_reducible repeat (first | apply Kd.S_alloc | apply Kd.S_drewN | apply Kd.S_drew)); exact Kd.S_mono HO_6.out (fun _ hk => ⟨hk.2, hk.1.2⟩)), (by (with_reducible repeat (first | refine blk_drewN ?_ _ | refine blk_drew ?_ | refine blk_alloc ?_ _)); exact BK310.out), GW310.out, GE310.out, (by repeat (first | (with_reducible first | exact HB.out | apply below_alloc | apply pw_below_drewN | apply below_drew1 | refine below_set ?_ GE310.out) | exact HB.out))⟩)
                                rintro ⟨v308, gb310⟩ w25 ⟨hS_, h0_, h1_, h2_, h3_, h4_, h5_⟩
                                have n0_ : Aside0 (Kd.R k60 60 w25 w.heap.size (fun _ => True) v308 t307) := ⟨h0_⟩
                                have n1_ : Aside0 (Kd.S k28 28 w25 w.heap.size (fun k_ => some k_ ≠ (v308 : Value).ownBlock ∧ k_ ≠ gb310) u6 x6_1) := ⟨h1_⟩
                                have n2_ : Aside0 (w25.heap[gb310]? = some (.cells #[.string (⟨#[]⟩ : ByteArray), .slice none 0 0] 28 (0, 0))) := ⟨h2_⟩
                                have n3_ : Aside0 (w.heap.size ≤ gb310) := ⟨h3_⟩
                                have n4_ : Aside0 (w.heap.size ≤ gb310) := ⟨h4_⟩
                                have n5_ : Aside0 (Below w.heap.size w w25) := ⟨h5_⟩
                                clear HO_6
                                clear HB
                                clear h0_ h1_ h2_ h3_ h4_ h5_
                                have HO309 := n0_
                                have HO_6 := n1_
                                have BK310 := n2_
                                have GW310 := n3_
                                have GE310 := n4_
                                have HB := n5_
                                clear n0_ n1_ n2_ n3_ n4_ n5_
                                have hHeld : w25.cell? (ad304.add (x7_1).toNat) = some (.int .u8 (rd l0 x7_1)) := hS_
                                obtain ⟨Ao27, co27, eo27⟩ := Kd.R_slice HO309.out
                                (first | subst eo27 | (injection eo27 with f1_ f2_ f3_; have f4_ := f1_.symm; have f5_ := f3_.symm; clear f1_ f2_ f3_; subst f4_; subst f5_))
                                refine norm_ (a' := ?_) ?_ ?_
                                rotate_left
                                · simp only [putAll, Act.put, List.setIfInBounds_toArray, List.set_cons_zero, List.set_cons_succ]
                                  rfl
                                refine one_ (i := 9) (N := none) #[true, true, true, true, true, true, true, true, true, true] rfl rfl (one_of HT_.out (by kernel_rfl)) (by decide) (fun K hK => ?_)
                                have hs26 : w25.cell? ⟨gb310, 0, none⟩ = some (.string (⟨#[]⟩ : ByteArray)) := (blk_cell BK310.out 0).trans rfl
                                have hfs26 := blk_frozen BK310.out 0
                                have hs28 : w25.cell? ⟨gb310, 1, none⟩ = some (.slice none 0 0) := (blk_cell BK310.out 1).trans rfl
                                have hfs28 := blk_frozen BK310.out 1
                                refine skip_ (w1 := ?_) (by rfl) rfl ?_ ?_
                                rotate_left
                                · go_simp
                                  rfl
                                refine hK.out _ _ (((cell_far (p := ⟨gb310, _, none⟩) (by first | exact Nat.ne_of_lt (Nat.lt_of_lt_of_le (by have := World.block_lt_of_cell? _ _ hw304_0; first | rwa [add_block] at this | exact this) GW310.out) | (rw [add_block]; exact Nat.ne_of_lt (Nat.lt_of_lt_of_le (by have := World.block_lt_of_cell? _ _ hw304_0; first | rwa [add_block] at this | exact this) GW310.out)) | (show (Addr.add _ _).block ≠ _; rw [add_block]; exact Nat.ne_of_lt (Nat.lt_of_lt_of_le (by have := World.block_lt_of_cell? _ _ hw304_0; first | rwa [add_block] at this | exact this) GW310.out)) | (dsimp only; exact Nat.ne_of_lt (Nat.lt_of_lt_of_le (by have := World.block_lt_of_cell? _ _ hw304_0; first | rwa [add_block] at this | exact this) GW310.out))) _).trans (((cell_far (p := ⟨gb310, _, none⟩) (by first | exact Nat.ne_of_lt (Nat.lt_of_lt_of_le (by have := World.block_lt_of_cell? _ _ hw304_0; first | rwa [add_block] at this | exact this) GW310.out) | (rw [add_block]; exact Nat.ne_of_lt (Nat.lt_of_lt_of_le (by have := World.block_lt_of_cell? _ _ hw304_0; first | rwa [add_block] at this | exact this) GW310.out)) | (show (Addr.add _ _).block ≠ _; rw [add_block]; exact Nat.ne_of_lt (Nat.lt_of_lt_of_le (by have := World.block_lt_of_cell? _ _ hw304_0; first | rwa [add_block] at this | exact this) GW310.out)) | (dsimp only; exact Nat.ne_of_lt (Nat.lt_of_lt_of_le (by have := World.block_lt_of_cell? _ _ hw304_0; first | rwa [add_block] at this | exact this) GW310.out))) _).trans (hHeld))))) (fun hHeld => ?_)
                                clear hK K
                                refine done_ (done_of HT_.out (by kernel_rfl)) ?_
                                have p311 : 0 ≤ (x7_1 : Int) := of_decide_eq_true (by first | (with_reducible assumption) | assumption)
                                have q311 : x7_1 < (l0.length : Int) := of_decide_eq_true (by first | (with_reducible assumption) | assumption)
                                obtain ⟨ad311, e311, hx311_0⟩ := Kd.at_int HR0.out x7_1 p311 q311
                                obtain rfl : ad304 = ad311 := (by injection e311)
                                have hn311_0 : ad304.block ≠ gb310 := Nat.ne_of_lt (Nat.lt_of_lt_of_le (by have := World.block_lt_of_cell? _ _ hx311_0; first | rwa [add_block] at this | exact this) GW310.out)
                                have hn311_1 : ad304.block ≠ gb310 := Nat.ne_of_lt (Nat.lt_of_lt_of_le (by have := World.block_lt_of_cell? _ _ hx311_0; first | rwa [add_block] at this | exact this) GW310.out)
                                replace hx311_0 := (HB.out.cell (World.block_lt_of_cell? w _ hx311_0)).trans hx311_0
                                replace hx311_0 := (cell_far (p := ⟨gb310, 0, none⟩) (by first | (rw [add_block]; exact hn311_0) | (show (Addr.add _ _).block ≠ _; rw [add_block]; exact hn311_0) | exact hn311_0) (.string t306)).trans hx311_0
                                replace hx311_0 := (cell_far (p := ⟨gb310, 1, none⟩) (by first | (rw [add_block]; exact hn311_1) | (show (Addr.add _ _).block ≠ _; rw [add_block]; exact hn311_1) | exact hn311_1) (.slice Ao27 t307.length co27)).trans hx311_0
                                clear hn311_0
                                clear hn311_1
                                replace p311 := eq_true p311
                                replace q311 := eq_true q311
                                try go_wp2
                                have pi315 : (0 ≤ (x7_1 : Int)) = True := eq_true (of_decide_eq_true (by first | (with_reducible assumption) | assumption))
                                have qi315 : (x7_1 < (y312.length : Int)) = True := eq_true (of_decide_eq_true (by first | (with_reducible assumption) | assumption))
                                have n0_ : Aside0 (Kd.S k28 28 ((w25.setCell ⟨gb310, 0, none⟩ (.string t306)).setCell ⟨gb310, 1, none⟩ (.slice Ao27 t307.length co27)) w.heap.size (fun k_ => some k_ ≠ (.slice Ao27 t307.length co27 : Value).ownBlock ∧ k_ ≠ gb310) u6 x6_1) := ⟨by (with_reducible repeat (first | apply Kd.S_alloc | apply Kd.S_drewN | apply Kd.S_drew)); exact Kd.S_mono (Kd.S_far (p := ⟨gb310, 1, none⟩) (Kd.S_far (p := ⟨gb310, 0, none⟩) (Kd.S_mono HO_6.out (fun k_ hk => (⟨hk, hk.2⟩ : _ ∧ k_ ≠ gb310))) (fun _ hk => hk.2) (.string t306)) (fun _ hk => hk.2) (.slice Ao27 t307.length co27)) (fun _ hk => ⟨hk.1.1, hk.1.2⟩)⟩
                                have n1_ : Aside0 (Kd.R k60 60 ((w25.setCell ⟨gb310, 0, none⟩ (.string t306)).setCell ⟨gb310, 1, none⟩ (.slice Ao27 t307.length co27)) w.heap.size (fun _ => True) (.slice Ao27 t307.length co27) t307) := ⟨by (with_reducible repeat (first | apply Kd.R_alloc | apply Kd.R_drewN | apply Kd.R_drew)); exact Kd.R_mono (Kd.R_far (p := ⟨gb310, 1, none⟩) (Kd.R_far (p := ⟨gb310, 0, none⟩) (Kd.R_types HO309.out BK310.out (by decide)) (fun _ hk => hk.2) (.string t306)) (fun _ hk => hk.2) (.slice Ao27 t307.length co27)) (fun _ hk => trivial)⟩
                                have n2_ : Aside0 (((w25.setCell ⟨gb310, 0, none⟩ (.string t306)).setCell ⟨gb310, 1, none⟩ (.slice Ao27 t307.length co27)).heap[gb310]? = some (.cells #[.string t306, .slice Ao27 t307.length co27] 28 (0, 0))) := ⟨by (with_reducible repeat (first | refine blk_drewN ?_ _ | refine blk_drew ?_ | refine blk_alloc ?_ _)); refine blk_put (cs := #[.string t306, .slice none 0 0]) ?_ 1 _ rfl; (with_reducible repeat (first | refine blk_drewN ?_ _ | refine blk_drew ?_ | refine blk_alloc ?_ _)); refine blk_put (cs := #[.string (⟨#[]⟩ : ByteArray), .slice none 0 0]) ?_ 0 _ rfl; (with_reducible repeat (first | refine blk_drewN ?_ _ | refine blk_drew ?_ | refine blk_alloc ?_ _)); exact BK310.out⟩
                                have n3_ : Aside0 (Below w.heap.size w ((w25.setCell ⟨gb310, 0, none⟩ (.string t306)).setCell ⟨gb310, 1, none⟩ (.slice Ao27 t307.length co27))) := ⟨by repeat (first | (with_reducible first | exact HB.out | apply below_alloc | apply pw_below_drewN | apply below_drew1 | refine below_set ?_ GE310.out) | exact HB.out)⟩
                                (try clear HO_6)
                                (try clear HO309)
                                (try clear BK310)
                                (try clear HB)
                                generalize ((w25.setCell ⟨gb310, 0, none⟩ (.string t306)).setCell ⟨gb310, 1, none⟩ (.slice Ao27 t307.length co27)) = w29 at n0_ n1_ n2_ n3_ ⊢
                                have HO_6 := n0_
                                have HO309 := n1_
                                have BK310 := n2_
                                have HB := n3_
                                clear n0_ n1_ n2_ n3_
                                have n0_ := Aside0.mk (Kd.S_drew HO_6.out)
                                have n1_ := Aside0.mk (Kd.R_drew HO309.out)
                                have n2_ := Aside0.mk (blk_drew BK310.out)
                                have n3_ := Aside0.mk (below_drew1 HB.out)
                                clear HO_6
                                clear HO309
                                clear BK310
                                clear HB
                                have HO_6 := n0_
                                have HO309 := n1_
                                have BK310 := n2_
                                have HB := n3_
                                clear n0_ n1_ n2_ n3_
                                refine start_ (n := 14) (S := fun w' => w'.cell? ⟨gb310, 0, none⟩ = some (.string t306) ∧ w'.cell? ⟨gb310, 1, none⟩ = some (.slice Ao27 t307.length co27)) (ds := [13]) #[false, false, false, false, false, false, false, false, false, false, false, false, false, false] (by kernel_rfl) rfl rfl ⟨(blk_cell BK310.out 0).trans rfl, (blk_cell BK310.out 1).trans rfl⟩ (fun hHeld => ?_); refine with_tabW marshallinglaw03_StreamAll.tab10 marshallinglaw03_StreamAll.bits10 (fun HT_ HW_ => ?_)
                                generalize w29.drew = w30 at HO_6 HO309 BK310 HB hHeld ⊢
                                refine pure_ (i := 0) (N := some 41) (v := ?_) (a' := ?_) #[true, false, false, false, false, false, false, false, false, false, false, false, false, false] rfl rfl (any_of HT_.out (by kernel_rfl)) (fun _ _ _ h => h) (Or.inl ⟨by rfl, ?_⟩) ?_ ?_
                                rotate_left
                                · intro w'
                                  go_simp
                                  with_reducible rfl
                                rotate_left
                                · simp only [Act.put, List.setIfInBounds_toArray, List.set_cons_zero, List.set_cons_succ, i64_w, i32_w]
                                  rfl
                                refine pure_ (i := 2) (N := some 43) (v := ?_) (a' := ?_) #[true, false, true, false, false, false, false, false, false, false, false, false, false, false] rfl rfl (any_of HT_.out (by kernel_rfl)) (fun _ _ _ h => h) (Or.inl ⟨by rfl, ?_⟩) ?_ ?_
                                rotate_left
                                · intro w'
                                  go_simp
                                  with_reducible rfl
                                rotate_left
                                · simp only [Act.put, List.setIfInBounds_toArray, List.set_cons_zero, List.set_cons_succ, i64_w, i32_w]
                                  rfl
                                refine pure_ (i := 8) (N := some 49) (v := ?_) (a' := ?_) #[true, false, true, false, false, false, false, false, true, false, false, false, false, false] rfl rfl (any_of HT_.out (by kernel_rfl)) (fun _ _ _ h => h) (Or.inl ⟨by rfl, ?_⟩) ?_ ?_
                                rotate_left
                                · intro w'
                                  go_simp
                                  with_reducible rfl
                                rotate_left
                                · simp only [Act.put, List.setIfInBounds_toArray, List.set_cons_zero, List.set_cons_succ, i64_w, i32_w]
                                  rfl
                                refine take_ (i := 1) (N := some 42) (v := ?_) (a' := ?_) #[true, true, true, false, false, false, false, false, true, false, false, false, false, false] rfl rfl (take_ofW HT_.out HW_.out (by kernel_rfl)) (fun _ _ _ h => h) (Or.inl ⟨by rfl, ?_⟩) hHeld ?_ ?_
                                rotate_left
                                · rintro w' ⟨s0, s1⟩
                                  go_simp
                                  with_reducible rfl
                                rotate_left
                                · simp only [Act.put, List.setIfInBounds_toArray, List.set_cons_zero, List.set_cons_succ, i64_w, i32_w]
                                  rfl
                                refine take_ (i := 3) (N := some 44) (v := ?_) (a' := ?_) #[true, true, true, true, false, false, false, false, true, false, false, false, false, false] rfl rfl (take_ofW HT_.out HW_.out (by kernel_rfl)) (fun _ _ _ h => h) (Or.inl ⟨by rfl, ?_⟩) hHeld ?_ ?_
                                rotate_left
                                · rintro w' ⟨s0, s1⟩
                                  go_simp
                                  with_reducible rfl
                                rotate_left
                                · simp only [Act.put, List.setIfInBounds_toArray, List.set_cons_zero, List.set_cons_succ, i64_w, i32_w]
                                  rfl
                                refine pure_ (i := 4) (N := some 45) (v := ?_) (a' := ?_) #[true, true, true, true, true, false, false, false, true, false, false, false, false, false] rfl rfl (any_of HT_.out (by kernel_rfl)) (fun _ _ _ h => h) (Or.inl ⟨by rfl, ?_⟩) ?_ ?_
                                rotate_left
                                · intro w'
                                  go_simp
                                  with_reducible rfl
                                rotate_left
                                · simp only [Act.put, List.setIfInBounds_toArray, List.set_cons_zero, List.set_cons_succ, i64_w, i32_w]
                                  rfl
                                refine pure_ (i := 5) (N := some 46) (v := ?_) (a' := ?_) #[true, true, true, true, true, true, false, false, true, false, false, false, false, false] rfl rfl (any_of HT_.out (by kernel_rfl)) (fun _ _ _ h => h) (Or.inl ⟨by rfl, ?_⟩) ?_ ?_
                                rotate_left
                                · intro w'
                                  go_simp
                                  with_reducible rfl
                                rotate_left
                                · simp only [Act.put, List.setIfInBounds_toArray, List.set_cons_zero, List.set_cons_succ, i64_w, i32_w]
                                  rfl
                                refine pure_ (i := 6) (N := some 47) (v := ?_) (a' := ?_) #[true, true, true, true, true, true, true, false, true, false, false, false, false, false] rfl rfl (any_of HT_.out (by kernel_rfl)) (fun _ _ _ h => h) (Or.inl ⟨by rfl, ?_⟩) ?_ ?_
                                rotate_left
                                · intro w'
                                  go_simp
                                  with_reducible rfl
                                rotate_left
                                · simp only [Act.put, List.setIfInBounds_toArray, List.set_cons_zero, List.set_cons_succ, i64_w, i32_w]
                                  rfl
                                refine one_ (i := 7) (N := some 48) #[true, true, true, true, true, true, true, true, true, false, false, false, false, false] rfl rfl (one_of HT_.out (by kernel_rfl)) (by decide) (fun K hK => ?_)
                                refine Kd.R_lit_step Kd.string _ 9 ?hg (N := 48) ?hd (xs := ([(⟨#[48]⟩ : ByteArray), (⟨#[49]⟩ : ByteArray), (⟨#[50]⟩ : ByteArray), (⟨#[51]⟩ : ByteArray), (⟨#[52]⟩ : ByteArray), (⟨#[53]⟩ : ByteArray), (⟨#[54]⟩ : ByteArray), (⟨#[55]⟩ : ByteArray), (⟨#[56]⟩ : ByteArray), (⟨#[57]⟩ : ByteArray)] : List ByteArray)) (inner := [.string (⟨#[48]⟩ : ByteArray), .string (⟨#[49]⟩ : ByteArray), .string (⟨#[50]⟩ : ByteArray), .string (⟨#[51]⟩ : ByteArray), .string (⟨#[52]⟩ : ByteArray), .string (⟨#[53]⟩ : ByteArray), .string (⟨#[54]⟩ : ByteArray), .string (⟨#[55]⟩ : ByteArray), .string (⟨#[56]⟩ : ByteArray), .string (⟨#[57]⟩ : ByteArray)]) (ok := fun _ => True) (okp := fun _ => True) ?hr ?hp (fun _ hk => hk) trivial (Below.refl _ _) (Nat.le_refl _) (by simp) ?_; (case hd => rfl); (case hg => rfl); (case hr => first | (go_simp; done) | (go_simp; rfl)); (case hp => exact (Reps.one (show Kd.M Kd.string _ _ _ (⟨#[48]⟩ : ByteArray) [.string (⟨#[48]⟩ : ByteArray)] from rfl) (Reps.one (show Kd.M Kd.string _ _ _ (⟨#[49]⟩ : ByteArray) [.string (⟨#[49]⟩ : ByteArray)] from rfl) (Reps.one (show Kd.M Kd.string _ _ _ (⟨#[50]⟩ : ByteArray) [.string (⟨#[50]⟩ : ByteArray)] from rfl) (Reps.one (show Kd.M Kd.string _ _ _ (⟨#[51]⟩ : ByteArray) [.string (⟨#[51]⟩ : ByteArray)] from rfl) (Reps.one (show Kd.M Kd.string _ _ _ (⟨#[52]⟩ : ByteArray) [.string (⟨#[52]⟩ : ByteArray)] from rfl) (Reps.one (show Kd.M Kd.string _ _ _ (⟨#[53]⟩ : ByteArray) [.string (⟨#[53]⟩ : ByteArray)] from rfl) (Reps.one (show Kd.M Kd.string _ _ _ (⟨#[54]⟩ : ByteArray) [.string (⟨#[54]⟩ : ByteArray)] from rfl) (Reps.one (show Kd.M Kd.string _ _ _ (⟨#[55]⟩ : ByteArray) [.string (⟨#[55]⟩ : ByteArray)] from rfl) (Reps.one (show Kd.M Kd.string _ _ _ (⟨#[56]⟩ : ByteArray) [.string (⟨#[56]⟩ : ByteArray)] from rfl) (Reps.one (show Kd.M Kd.string _ _ _ (⟨#[57]⟩ : ByteArray) [.string (⟨#[57]⟩ : ByteArray)] from rfl) (Reps.none _ _))))))))))))
                                intro v313 w31 ho32 hb hg_ hnew_
                                clear hg_ hnew_
                                (first | rw [← Ny312.out] at ho32 | (simp only [Int.reduceToNat] at ho32; rw [← Ny312.out] at ho32))
                                have n0_ := Aside0.mk (Kd.S_below (by (with_reducible repeat (first | apply Kd.S_alloc | apply Kd.S_drewN | apply Kd.S_drew)); exact HO_6.out) hb)
                                have n1_ := Aside0.mk (Kd.R_below (by (with_reducible repeat (first | apply Kd.R_alloc | apply Kd.R_drewN | apply Kd.R_drew)); exact HO309.out) hb)
                                have n2_ := Aside0.mk (Kd.R_lower ho32 (below_size (by repeat (first | (with_reducible first | exact HB.out | apply below_alloc | apply pw_below_drewN | apply below_drew1 | refine below_set ?_ GE310.out) | exact HB.out))))
                                have n3_ := Aside0.mk (blk_below (g := gb310) (o := .cells #[.string t306, .slice Ao27 t307.length co27] 28 (0, 0)) (by (with_reducible repeat (first | refine blk_drewN ?_ _ | refine blk_drew ?_ | refine blk_alloc ?_ _)); exact BK310.out) hb)
                                have n4_ := Aside0.mk (below_step (by repeat (first | (with_reducible first | exact HB.out | apply below_alloc | apply pw_below_drewN | apply below_drew1 | refine below_set ?_ GE310.out) | exact HB.out)) hb)
                                clear HO_6
                                clear HO309
                                clear BK310
                                clear HB
                                have HO_6 := n0_
                                have HO309 := n1_
                                have HO314 := n2_
                                have BK310 := n3_
                                have HB := n4_
                                clear n0_ n1_ n2_ n3_ n4_
                                clear hb ho32
                                obtain ⟨Ao33, co33, eo33⟩ := Kd.R_slice HO314.out
                                subst eo33
                                obtain ⟨ado33, fo33, _⟩ := Kd.at_string (Kd.R_reads' HO314.out).2.2 0 (by decide) (by rw [Ny312.out]; simp)
                                cases fo33
                                refine hK.out _ _ ⟨(blk_cell BK310.out 0).trans rfl, (blk_cell BK310.out 1).trans rfl⟩ (fun hHeld => ?_)
                                clear hK K
                                refine norm_ (a' := ?_) ?_ ?_
                                rotate_left
                                · show Act.put _ (some 48) _ = _
                                  simp only [Act.put, List.setIfInBounds_toArray, List.set_cons_zero, List.set_cons_succ, i64_w, i32_w]
                                  rfl
                                refine pure_ (i := 9) (N := some 50) (v := ?_) (a' := ?_) #[true, true, true, true, true, true, true, true, true, true, false, false, false, false] rfl rfl (any_of HT_.out (by kernel_rfl)) (fun _ _ _ h => h) (Or.inl ⟨by rfl, ?_⟩) ?_ ?_
                                rotate_left
                                · intro w'
                                  go_simp
                                  with_reducible rfl
                                rotate_left
                                · simp only [Act.put, List.setIfInBounds_toArray, List.set_cons_zero, List.set_cons_succ, i64_w, i32_w]
                                  rfl
                                refine one_ (i := 10) (N := some 51) #[true, true, true, true, true, true, true, true, true, true, true, false, false, false] rfl rfl (one_of HT_.out (by kernel_rfl)) (by decide) (fun K hK => ?_)
                                (have p315 : 0 ≤ (x7_1 : Int) := of_decide_eq_true (by first | (with_reducible assumption) | assumption); have q315 : x7_1 < (y312.length : Int) := of_decide_eq_true (by first | (with_reducible assumption) | assumption); obtain ⟨ad315, e315, hx315_0⟩ := Kd.at_string (Kd.R_reads' HO314.out).2.2 x7_1 p315 q315; obtain rfl : ado33 = ad315 := (by injection e315))
                                refine value_ (w1 := ?_) (v := ?_) (by rfl) rfl ?_ ?_
                                rotate_left 2
                                · go_simp
                                  constructor
                                  · rfl
                                  · rfl
                                clear hx315_0
                                refine hK.out _ _ ⟨(blk_cell BK310.out 0).trans rfl, (blk_cell BK310.out 1).trans rfl⟩ (fun hHeld => ?_)
                                clear hK K
                                refine norm_ (a' := ?_) ?_ ?_
                                rotate_left
                                · show Act.put _ (some 51) _ = _
                                  simp only [Act.put, List.setIfInBounds_toArray, List.set_cons_zero, List.set_cons_succ, i64_w, i32_w]
                                  rfl
                                refine pure_ (i := 11) (N := some 52) (v := ?_) (a' := ?_) #[true, true, true, true, true, true, true, true, true, true, true, true, false, false] rfl rfl (any_of HT_.out (by kernel_rfl)) (fun _ _ _ h => h) (Or.inl ⟨by rfl, ?_⟩) ?_ ?_
                                rotate_left
                                · intro w'
                                  go_simp
                                  with_reducible rfl
                                rotate_left
                                · simp only [Act.put, List.setIfInBounds_toArray, List.set_cons_zero, List.set_cons_succ, i64_w, i32_w]
                                  rfl
                                refine pure_ (i := 12) (N := some 53) (v := ?_) (a' := ?_) #[true, true, true, true, true, true, true, true, true, true, true, true, true, false] rfl rfl (any_of HT_.out (by kernel_rfl)) (fun _ _ _ h => h) (Or.inl ⟨by rfl, ?_⟩) ?_ ?_
                                rotate_left
                                · intro w'
                                  go_simp
                                  with_reducible rfl
                                rotate_left
                                · simp only [Act.put, List.setIfInBounds_toArray, List.set_cons_zero, List.set_cons_succ, i64_w, i32_w]
                                  rfl
                                refine last_ (i := 13) (N := none) #[true, true, true, true, true, true, true, true, true, true, true, true, true, true] rfl rfl (one_of HT_.out (by kernel_rfl)) (by decide) (fun K hK => ?_)
                                have hs34 : w31.cell? ⟨gb310, 0, none⟩ = some (.string t306) := (blk_cell BK310.out 0).trans rfl
                                have hfs34 := blk_frozen BK310.out 0
                                refine skip_ (w1 := ?_) (by rfl) rfl ?_ ?_
                                rotate_left
                                · go_simp
                                  rfl
                                refine hK.out _ _ ?_
                                clear hK K
                                refine done_ (done_of HT_.out (by kernel_rfl)) ?_
                                have n0_ : Aside0 (Kd.S k28 28 (w31.setCell ⟨gb310, 0, none⟩ (.string ((t306.extract 0 ((ji15) : Int).toNat) ++ (rdOf ByteArray.empty y312 x7_1)))) w.heap.size (fun k_ => some k_ ≠ (.slice Ao27 t307.length co27 : Value).ownBlock ∧ k_ ≠ gb310) u6 x6_1) := ⟨by (with_reducible repeat (first | apply Kd.S_alloc | apply Kd.S_drewN | apply Kd.S_drew)); exact Kd.S_mono (Kd.S_far (p := ⟨gb310, 0, none⟩) (Kd.S_mono HO_6.out (fun k_ hk => (⟨hk, hk.2⟩ : _ ∧ k_ ≠ gb310))) (fun _ hk => hk.2) (.string ((t306.extract 0 ((ji15) : Int).toNat) ++ (rdOf ByteArray.empty y312 x7_1)))) (fun _ hk => ⟨hk.1.1, hk.1.2⟩)⟩
                                have n1_ : Aside0 (Kd.R k60 60 (w31.setCell ⟨gb310, 0, none⟩ (.string ((t306.extract 0 ((ji15) : Int).toNat) ++ (rdOf ByteArray.empty y312 x7_1)))) w.heap.size (fun _ => True) (.slice Ao27 t307.length co27) t307) := ⟨by (with_reducible repeat (first | apply Kd.R_alloc | apply Kd.R_drewN | apply Kd.R_drew)); exact Kd.R_mono (Kd.R_far (p := ⟨gb310, 0, none⟩) (Kd.R_types HO309.out BK310.out (by decide)) (fun _ hk => hk.2) (.string ((t306.extract 0 ((ji15) : Int).toNat) ++ (rdOf ByteArray.empty y312 x7_1)))) (fun _ hk => trivial)⟩
                                have n2_ : Aside0 (Kd.R Kd.string 9 (w31.setCell ⟨gb310, 0, none⟩ (.string ((t306.extract 0 ((ji15) : Int).toNat) ++ (rdOf ByteArray.empty y312 x7_1)))) w.heap.size (fun _ => True) (.slice (some ado33) y312.length co33) y312) := ⟨by (with_reducible repeat (first | apply Kd.R_alloc | apply Kd.R_drewN | apply Kd.R_drew)); exact Kd.R_mono (Kd.R_far (p := ⟨gb310, 0, none⟩) (Kd.R_types HO314.out BK310.out (by decide)) (fun _ hk => hk.2) (.string ((t306.extract 0 ((ji15) : Int).toNat) ++ (rdOf ByteArray.empty y312 x7_1)))) (fun _ hk => trivial)⟩
                                have n3_ : Aside0 ((w31.setCell ⟨gb310, 0, none⟩ (.string ((t306.extract 0 ((ji15) : Int).toNat) ++ (rdOf ByteArray.empty y312 x7_1)))).heap[gb310]? = some (.cells #[.string ((t306.extract 0 ((ji15) : Int).toNat) ++ (rdOf ByteArray.empty y312 x7_1)), .slice Ao27 t307.length co27] 28 (0, 0))) := ⟨by (with_reducible repeat (first | refine blk_drewN ?_ _ | refine blk_drew ?_ | refine blk_alloc ?_ _)); refine blk_put (cs := #[.string t306, .slice Ao27 t307.length co27]) ?_ 0 _ rfl; (with_reducible repeat (first | refine blk_drewN ?_ _ | refine blk_drew ?_ | refine blk_alloc ?_ _)); exact BK310.out⟩
                                have n4_ : Aside0 (Below w.heap.size w (w31.setCell ⟨gb310, 0, none⟩ (.string ((t306.extract 0 ((ji15) : Int).toNat) ++ (rdOf ByteArray.empty y312 x7_1))))) := ⟨by repeat (first | (with_reducible first | exact HB.out | apply below_alloc | apply pw_below_drewN | apply below_drew1 | refine below_set ?_ GE310.out) | exact HB.out)⟩
                                (try clear HO_6)
                                (try clear HO309)
                                (try clear HO314)
                                (try clear BK310)
                                (try clear HB)
                                generalize (w31.setCell ⟨gb310, 0, none⟩ (.string ((t306.extract 0 ((ji15) : Int).toNat) ++ (rdOf ByteArray.empty y312 x7_1)))) = w35 at n0_ n1_ n2_ n3_ n4_ ⊢
                                have HO_6 := n0_
                                have HO309 := n1_
                                have HO314 := n2_
                                have BK310 := n3_
                                have HB := n4_
                                clear n0_ n1_ n2_ n3_ n4_
                                have hcz36_0 : w35.cell? ⟨gb310, 0, none⟩ = some (.string ((t306.extract 0 ((ji15) : Int).toNat) ++ (rdOf ByteArray.empty y312 x7_1))) := (blk_cell BK310.out 0).trans rfl
                                have hcz36_1 : w35.cell? ⟨gb310, 1, none⟩ = some (.slice Ao27 t307.length co27) := (blk_cell BK310.out 1).trans rfl
                                have hfz36_0 := blk_frozen BK310.out 0
                                have hfz36_1 := blk_frozen BK310.out 1
                                try go_wp2_with (first | ((with_reducible refine gate_builtin (b := .append) (xs := #[.tmp 54, .tmp 56]) rfl ?_); (try (refine gate_guard (by rfl) ?_; dsimp only)); at_builtin; refine Kd.S_append k28 (w0 := w) w.heap.size rfl (.tmp 54) (.tmp 56) 22 28 (.agg #[(.string ⟨#[]⟩), (.slice none 0 0)]) 40 rfl Tryd.underlying22 info28 rfl (by decide) (by omega) u6 x6_1 (⟨(t306.extract 0 ((ji15) : Int).toNat) ++ (rdOf ByteArray.empty y312 x7_1), t307⟩ : S28) [.string ((t306.extract 0 ((ji15) : Int).toNat) ++ (rdOf ByteArray.empty y312 x7_1)), .slice Ao27 t307.length co27] (fun k_ => k_ ≠ gb310) (fun k_ => some k_ = (.slice Ao27 t307.length co27 : Value).ownBlock) rfl rfl ?aP (fun k_ hk_ => ((Kd.R_mono (ok' := fun k_ => ((fun k_ => k_ ≠ gb310)) k_ ∧ some k_ ≠ (u6 : Value).ownBlock) (Kd.R_types (Kd.R_apart' (HO309.out) (Kd.S_typed HO_6.out) (by decide)) BK310.out (by decide)) (fun k_ hk => ⟨hk.2, hk.1.2⟩))).1 k_ hk_.symm) ?aF ?aO ?aB ?aS ?aL ?_; (case aP => exact k28_mkM _ _ _ (⟨(t306.extract 0 ((ji15) : Int).toNat) ++ (rdOf ByteArray.empty y312 x7_1), t307⟩ : S28) (Kd.R_mono (Kd.R_tight rfl (Kd.R_mono (ok' := fun k_ => ((fun k_ => k_ ≠ gb310)) k_ ∧ some k_ ≠ (u6 : Value).ownBlock) (Kd.R_types (Kd.R_apart' (HO309.out) (Kd.S_typed HO_6.out) (by decide)) BK310.out (by decide)) (fun k_ hk => ⟨hk.2, hk.1.2⟩))) (fun _ h_ => h_))); (case aB => exact (by repeat (first | (with_reducible first | exact HB.out | apply below_alloc | apply pw_below_drewN | apply below_drew1 | refine below_set ?_ GE310.out) | exact HB.out))); (case aF => exact (fun k_ hk => Kd.freshB (g := gb310) (o := .cells #[.string ((t306.extract 0 ((ji15) : Int).toNat) ++ (rdOf ByteArray.empty y312 x7_1)), .slice Ao27 t307.length co27] 28 (0, 0)) (by (with_reducible repeat (first | refine blk_drewN ?_ _ | refine blk_drew ?_ | refine blk_alloc ?_ _)); exact BK310.out) k_ hk)); (case aO => exact (by (with_reducible repeat (first | apply Kd.S_alloc | apply Kd.S_drewN | apply Kd.S_drew)); exact Kd.S_mono HO_6.out (fun k_ hk => ⟨hk.2, fun e_ => hk.1 e_⟩))); (case aS => exact (below_size (by repeat (first | (with_reducible first | exact HB.out | apply below_alloc | apply pw_below_drewN | apply below_drew1 | refine below_set ?_ GE310.out) | exact HB.out)))); (case aL => have := LMc20.out; omega); intro v317 w37 ho hb hg hat; rw [← Ny316.out] at ho; have n0_ := Aside0.mk (blk_grown (g := gb310) (o := .cells #[.string ((t306.extract 0 ((ji15) : Int).toNat) ++ (rdOf ByteArray.empty y312 x7_1)), .slice Ao27 t307.length co27] 28 (0, 0)) (by (with_reducible repeat (first | refine blk_drewN ?_ _ | refine blk_drew ?_ | refine blk_alloc ?_ _)); exact BK310.out) hg (Kd.S_away HO_6.out (fun _ hk => hk.2))); have n1_ := Aside0.mk (Kd.R_over' (by (with_reducible repeat (first | apply Kd.R_alloc | apply Kd.R_drewN | apply Kd.R_drew)); exact HO314.out) (Kd.S_typed (by (with_reducible repeat (first | apply Kd.S_alloc | apply Kd.S_drewN | apply Kd.S_drew)); exact HO_6.out)) (by decide) hg); have n2_ := Aside0.mk (hb); have n3_ := Aside0.mk (ho); clear BK310; clear HO314; clear HB; clear HO_6; clear HO309; have BK310 := n0_; have HO314 := n1_; have HB := n2_; have HO318 := n3_; clear n0_ n1_ n2_ n3_; clear ho hb hg hat))
                                go_roundg kj5
                                case measure => have := HK1.out; have := HJ5.out; omega
                                case rel => exact ⟨(y316), (wrap64 (x7_1 + 1)), (by first | rfl | (simp; done) | (simp [*]; done)), H', ⟨by have := HK1.out; have := HJ5.out; omega⟩, ⟨by (with_reducible repeat (first | apply Kd.S_alloc | apply Kd.S_drewN | apply Kd.S_drew)); exact Kd.S_mono HO318.out (fun _ hk => trivial)⟩, ⟨by repeat (first | (with_reducible first | exact HB.out | apply below_alloc | apply pw_below_drewN | apply below_drew1 | refine below_set ?_ GE310.out) | exact HB.out)⟩⟩
                              · rw [if_neg c20] at H
                                exact absurd H (by simp)
                            · rw [if_neg c19] at H
                              exact absurd H (by simp)
                          · rw [if_neg c18] at H
                            exact absurd H (by simp)
                        · rw [if_neg c17] at H
                          exact absurd H (by simp)
                      · rw [if_neg c16] at H
                        exact absurd H (by simp)
                    · rw [if_neg c14] at H
                      have c14b0 : decide (127 < (rd l0 x7_1)) = false := decide_eq_false c14
                      clear c14
                      by_cases c38 : x6_1.length < 3518437208883
                      · rw [if_pos c38] at H
                        have LMc38 := Aside0.mk c38
                        clear c38
                        obtain ⟨y319, hy319⟩ : ∃ y_ : List (S28), y_ = (x6_1 ++ [(⟨t306, t307⟩ : S28)]) := ⟨_, rfl⟩
                        replace H : (marshallinglaw03_StreamAll.l0 kj5 l0 a1 true y319 (wrap64 (x7_1 + 1))) = some r := by first | (rw [hy319]; with_reducible exact H) | (have H2_ := (Option.bind_some _ _).symm.trans H; rw [hy319]; with_reducible exact H2_) | (have H2_ := (Option.bind_some _ _).symm.trans H; with_reducible exact H2_) | with_reducible exact H | (rw [hy319]; exact H) | exact H
                        have Ny319 := Aside0.mk hy319
                        clear hy319
                        have H' := Aside0.mk H
                        clear H
                        try go_wp2
                        have n0_ := Aside0.mk (Kd.S_drew HO_6.out)
                        have n1_ := Aside0.mk (below_drew1 HB.out)
                        clear HO_6
                        clear HB
                        have HO_6 := n0_
                        have HB := n1_
                        clear n0_ n1_
                        have p304 : 0 ≤ (x7_1 : Int) := of_decide_eq_true (by first | (with_reducible assumption) | assumption)
                        have q304 : x7_1 < (l0.length : Int) := of_decide_eq_true (by first | (with_reducible assumption) | assumption)
                        obtain ⟨ad304, e304, hx304_0⟩ := Kd.at_int HR0.out x7_1 p304 q304
                        have hw304_0 := hx304_0
                        cases e304
                        replace hx304_0 := (HB.out.cell (World.block_lt_of_cell? w _ hx304_0)).trans hx304_0
                        replace p304 := eq_true p304
                        replace q304 := eq_true q304
                        obtain ⟨i040, hi040, _, hsz40, _⟩ := info_parts info5
                        obtain ⟨A40, hcut40, hA40, hC40⟩ := print_drop_of (P := Tryd.prog) (Value.int .u8) 0 23 5 .i64 Tryd.underlying23 hi040 hsz40 (some ad304) c0 l0 x7_1 (of_decide_eq_true (by first | (with_reducible assumption) | assumption)) (of_decide_eq_true (by first | (with_reducible assumption) | assumption)) HC0.out
                        have HR305 := Aside0.mk (Kd.C_of_reads (h1 := fun _ => rfl) (hA40 _ (Kd.reads_of_C HR0.out)))
                        have HC305 := Aside0.mk hC40
                        clear hA40 hC40 hi040 hsz40
                        refine start_ (n := 10) (S := fun w' => w'.cell? (ad304.add (x7_1).toNat) = some (.int .u8 (rd l0 x7_1))) (ds := []) #[false, false, false, false, false, false, false, false, false, false] (by kernel_rfl) rfl rfl (((HB.out.cell (World.block_lt_of_cell? w _ hw304_0)).trans hw304_0)) (fun hHeld => ?_); refine with_tabW marshallinglaw03_StreamAll.tab8 marshallinglaw03_StreamAll.bits8 (fun HT_ HW_ => ?_)
                        generalize wc.drew = w39 at HO_6 HB HR305 hx304_0 hHeld ⊢
                        refine pure_ (i := 0) (N := some 28) (v := ?_) (a' := ?_) #[true, false, false, false, false, false, false, false, false, false] rfl rfl (any_of HT_.out (by kernel_rfl)) (fun _ _ _ h => h) (Or.inl ⟨by rfl, ?_⟩) ?_ ?_
                        rotate_left
                        · intro w'
                          go_simp
                          with_reducible rfl
                        rotate_left
                        · simp only [Act.put, List.setIfInBounds_toArray, List.set_cons_zero, List.set_cons_succ, i64_w, i32_w]
                          rfl
                        refine pure_ (i := 1) (N := some 29) (v := ?_) (a' := ?_) #[true, true, false, false, false, false, false, false, false, false] rfl rfl (any_of HT_.out (by kernel_rfl)) (fun _ _ _ h => h) (Or.inl ⟨by rfl, ?_⟩) ?_ ?_
                        rotate_left
                        · intro w'
                          go_simp
                          with_reducible rfl
                        rotate_left
                        · simp only [Act.put, List.setIfInBounds_toArray, List.set_cons_zero, List.set_cons_succ, i64_w, i32_w]
                          rfl
                        refine pure_ (i := 2) (N := some 30) (v := ?_) (a' := ?_) #[true, true, true, false, false, false, false, false, false, false] rfl rfl (any_of HT_.out (by kernel_rfl)) (fun _ _ _ h => h) (Or.inl ⟨by rfl, ?_⟩) ?_ ?_
                        rotate_left
                        · intro w'
                          go_simp
                          with_reducible rfl
                        rotate_left
                        · simp only [Act.put, List.setIfInBounds_toArray, List.set_cons_zero, List.set_cons_succ, i64_w, i32_w]
                          rfl
                        refine pure_ (i := 4) (N := some 32) (v := ?_) (a' := ?_) #[true, true, true, false, true, false, false, false, false, false] rfl rfl (any_of HT_.out (by kernel_rfl)) (fun _ _ _ h => h) (Or.inl ⟨by rfl, ?_⟩) ?_ ?_
                        rotate_left
                        · intro w'
                          go_simp
                          with_reducible rfl
                        rotate_left
                        · simp only [Act.put, List.setIfInBounds_toArray, List.set_cons_zero, List.set_cons_succ, i64_w, i32_w]
                          rfl
                        refine pure_ (i := 5) (N := some 33) (v := ?_) (a' := ?_) #[true, true, true, false, true, true, false, false, false, false] rfl rfl (any_of HT_.out (by kernel_rfl)) (fun _ _ _ h => h) (Or.inl ⟨by rfl, ?_⟩) ?_ ?_
                        rotate_left
                        · intro w'
                          go_simp
                          with_reducible rfl
                        rotate_left
                        · simp only [Act.put, List.setIfInBounds_toArray, List.set_cons_zero, List.set_cons_succ, i64_w, i32_w]
                          rfl
                        refine pure_ (i := 6) (N := some 34) (v := ?_) (a' := ?_) #[true, true, true, false, true, true, true, false, false, false] rfl rfl (any_of HT_.out (by kernel_rfl)) (fun _ _ _ h => h) (Or.inl ⟨by rfl, ?_⟩) ?_ ?_
                        rotate_left
                        · intro w'
                          go_simp
                          with_reducible rfl
                        rotate_left
                        · simp only [Act.put, List.setIfInBounds_toArray, List.set_cons_zero, List.set_cons_succ, i64_w, i32_w]
                          rfl
                        refine take_ (i := 3) (N := some 31) (v := ?_) (a' := ?_) #[true, true, true, true, true, true, true, false, false, false] rfl rfl (take_ofW HT_.out HW_.out (by kernel_rfl)) (fun _ _ _ h => h) (Or.inl ⟨by rfl, ?_⟩) hHeld ?_ ?_
                        rotate_left
                        · intro w' s0
                          go_simp
                          with_reducible rfl
                        rotate_left
                        · simp only [Act.put, List.setIfInBounds_toArray, List.set_cons_zero, List.set_cons_succ, i64_w, i32_w]
                          rfl
                        refine join_ (σ := Value × Nat) 1 #[true, true, true, true, true, true, true, true, true, false] (fun s_ => [(35, .agg #[.string t306, s_.1]), (8, .pointer (some ⟨s_.2, 0, none⟩))]) (fun s_ w' => (w'.cell? (ad304.add (x7_1).toNat) = some (.int .u8 (rd l0 x7_1))) ∧ (Kd.R k60 60 w' w.heap.size (fun _ => True) s_.1 t307) ∧ (Kd.S k28 28 w' w.heap.size (fun k_ => some k_ ≠ (s_.1 : Value).ownBlock ∧ k_ ≠ s_.2) u6 x6_1) ∧ (w'.heap[s_.2]? = some (.cells #[.string (⟨#[]⟩ : ByteArray), .slice none 0 0] 28 (0, 0))) ∧ (w.heap.size ≤ s_.2) ∧ (w.heap.size ≤ s_.2) ∧ (Below w.heap.size w w')) ?_ ?_
                        rotate_left
                        · intro hCont
                          refine two_ (i := 7) (j := 8) (Ni := some 35) (Nj := some 8) #[true, true, true, true, true, true, true, true, false, false] #[true, true, true, true, true, true, true, false, true, false] rfl rfl rfl rfl (two_of HT_.out (by kernel_rfl)) (by decide) (by decide) (fun K hK => ?_) (fun K hK => ?_)
                          · skip
                            refine goes_ Tryd.func10 (by kernel_rfl) rfl #[.int .u8 (rd l0 x7_1), .slice A40 (l0.drop (x7_1 : Int).toNat).length (c0 - x7_1.toNat)] (by rfl) rfl rfl (by (try simp only [List.map_toArray, List.map_cons, List.map_nil]); first | done | (rw [show (l0.drop (x7_1 : Int).toNat).length = (l0.length - x7_1.toNat) from List.length_drop] <;> rfl) | rfl | (simp only [List.length_drop, List.length_take]; rfl)) ?_
                            with_reducible refine (marshallinglaw03_own.calls kj5 (rd l0 x7_1) _ _ (l0.drop (x7_1 : Int).toNat) t306 t307 _ ?side1 ?side2 A13.out).mono ?_
                            (case side1 => repeat (first | exact (Kd.C_below HR305.out HB.out) | (with_reducible refine Kd.C_alloc ?_ _) | (with_reducible refine Kd.C_drewN ?_ _) | (with_reducible refine Kd.C_drew ?_)))
                            (case side2 => exact HC305.out)
                            rintro e w41 ⟨v308, rfl, ho0, hb⟩
                            refine ⟨_, rfl, ?_⟩
                            have n0_ := Aside0.mk (Kd.S_elder' (by (with_reducible repeat (first | apply Kd.S_alloc | apply Kd.S_drewN | apply Kd.S_drew)); exact HO_6.out) (Kd.R_base ho0) hb)
                            have n1_ := Aside0.mk (Kd.R_lower ho0 (below_size (by repeat (first | (with_reducible first | exact HB.out | apply below_alloc | apply pw_below_drewN | apply below_drew1) | exact HB.out))))
                            have n2_ := Aside0.mk (below_step (by repeat (first | (with_reducible first | exact HB.out | apply below_alloc | apply pw_below_drewN | apply below_drew1) | exact HB.out)) hb)
                            clear HO_6
                            clear HB
                            have HO_6 := n0_
                            have HO309 := n1_
                            have HB := n2_
                            clear n0_ n1_ n2_
                            (try clear hb)
                            (try clear hb2)
                            (try clear hk)
                            (try clear hi)
                            (try clear ho0)
                            refine hK.out _ _ (((HB.out.cell (World.block_lt_of_cell? w _ hw304_0)).trans hw304_0)) (fun hHeld => ?_)
                            clear hK K
                            refine norm_ (a' := ?_) ?_ ?_
                            rotate_left
                            · show Act.put _ (some 35) _ = _
                              simp only [Act.put, List.setIfInBounds_toArray, List.set_cons_zero, List.set_cons_succ, i64_w, i32_w]
                              rfl
                            refine one_ (i := 8) (N := some 8) #[true, true, true, true, true, true, true, true, true, false] rfl rfl (one_of HT_.out (by kernel_rfl)) (by decide) (fun K hK => ?_)
                            refine box_step ?hg (N := 8) ?hd (cs := #[.string (⟨#[]⟩ : ByteArray), .slice none 0 0]) (t := 28) ?hr ?_; (case hd => rfl); (case hg => rfl); (case hr => first | (go_simp; done) | (go_simp; rfl))
                            intro gb310 hg w42 hbox hb
                            have n0_ := Aside0.mk (Kd.S_below (Kd.S_elderB (by (with_reducible repeat (first | apply Kd.S_alloc | apply Kd.S_drewN | apply Kd.S_drew)); exact HO_6.out) gb310 (Nat.le_of_eq hg.symm)) hb)
                            have n1_ := Aside0.mk (Kd.R_below (by (with_reducible repeat (first | apply Kd.R_alloc | apply Kd.R_drewN | apply Kd.R_drew)); exact HO309.out) hb)
                            have n2_ := Aside0.mk (below_step (by repeat (first | (with_reducible first | exact HB.out | apply below_alloc | apply pw_below_drewN | apply below_drew1) | exact HB.out)) hb)
                            have n3_ := Aside0.mk (hbox)
                            have n4_ := Aside0.mk ((by rw [hg]; exact (below_size (by repeat (first | (with_reducible first | exact HB.out | apply below_alloc | apply pw_below_drewN | apply below_drew1) | exact HB.out))) : w.heap.size ≤ gb310))
                            have n5_ := Aside0.mk ((by rw [hg]; exact (below_size (by repeat (first | (with_reducible first | exact HB.out | apply below_alloc | apply pw_below_drewN | apply below_drew1) | exact HB.out))) : w.heap.size ≤ gb310))
                            clear HO_6
                            clear HO309
                            clear HB
                            have HO_6 := n0_
                            have HO309 := n1_
                            have HB := n2_
                            have BK310 := n3_
                            have GW310 := n4_
                            have GE310 := n5_
                            clear n0_ n1_ n2_ n3_ n4_ n5_
                            clear hb hbox hg
                            refine hK.out _ _ (((HB.out.cell (World.block_lt_of_cell? w _ hw304_0)).trans hw304_0)) (fun hHeld => ?_)
                            clear hK K
                            refine norm_ (a' := ?_) ?_ ?_
                            rotate_left
                            · show Act.put _ (some 8) _ = _
                              simp only [Act.put, List.setIfInBounds_toArray, List.set_cons_zero, List.set_cons_succ, i64_w, i32_w]
                              rfl
                            exact norm_ (by simp only [putAll, Act.put, List.setIfInBounds_toArray, List.set_cons_zero, List.set_cons_succ]) (hCont (v308, gb310) _ ⟨hHeld, (by (with_reducible repeat (first | apply Kd.R_alloc | apply Kd.R_drewN | apply Kd.R_drew)); exact HO309.out), (by (with_reducible repeat (first | apply Kd.S_alloc | apply Kd.S_drewN | apply Kd.S_drew)); exact Kd.S_mono HO_6.out (fun _ hk => ⟨hk.1.2, hk.2⟩)), (by (with_reducible repeat (first | refine blk_drewN ?_ _ | refine blk_drew ?_ | refine blk_alloc ?_ _)); exact BK310.out), GW310.out, GE310.out, (by repeat (first | (with_reducible first | exact HB.out | apply below_alloc | apply pw_below_drewN | apply below_drew1 | refine below_set ?_ GE310.out) | exact HB.out))⟩)
                          · skip
                            refine box_step ?hg (N := 8) ?hd (cs := #[.string (⟨#[]⟩ : ByteArray), .slice none 0 0]) (t := 28) ?hr ?_; (case hd => rfl); (case hg => rfl); (case hr => first | (go_simp; done) | (go_simp; rfl))
                            intro gb310 hg w41 hbox hb
                            have n0_ := Aside0.mk (Kd.S_below (Kd.S_elderB (by (with_reducible repeat (first | apply Kd.S_alloc | apply Kd.S_drewN | apply Kd.S_drew)); exact HO_6.out) gb310 (Nat.le_of_eq hg.symm)) hb)
                            have n1_ := Aside0.mk (below_step (by repeat (first | (with_reducible first | exact HB.out | apply below_alloc | apply pw_below_drewN | apply below_drew1) | exact HB.out)) hb)
                            have n2_ := Aside0.mk (hbox)
                            have n3_ := Aside0.mk ((by rw [hg]; exact (below_size (by repeat (first | (with_reducible first | exact HB.out | apply below_alloc | apply pw_below_drewN | apply below_drew1) | exact HB.out))) : w.heap.size ≤ gb310))
                            have n4_ := Aside0.mk ((by rw [hg]; exact (below_size (by repeat (first | (with_reducible first | exact HB.out | apply below_alloc | apply pw_below_drewN | apply below_drew1) | exact HB.out))) : w.heap.size ≤ gb310))
                            clear HO_6
                            clear HB
                            have HO_6 := n0_
                            have HB := n1_
                            have BK310 := n2_
                            have GW310 := n3_
                            have GE310 := n4_
                            clear n0_ n1_ n2_ n3_ n4_
                            clear hb hbox hg
                            refine hK.out _ _ (((HB.out.cell (World.block_lt_of_cell? w _ hw304_0)).trans hw304_0)) (fun hHeld => ?_)
                            clear hK K
                            refine norm_ (a' := ?_) ?_ ?_
                            rotate_left
                            · show Act.put _ (some 8) _ = _
                              simp only [Act.put, List.setIfInBounds_toArray, List.set_cons_zero, List.set_cons_succ, i64_w, i32_w]
                              rfl
                            refine one_ (i := 7) (N := some 35) #[true, true, true, true, true, true, true, true, true, false] rfl rfl (one_of HT_.out (by kernel_rfl)) (by decide) (fun K hK => ?_)
                            refine goes_ Tryd.func10 (by kernel_rfl) rfl #[.int .u8 (rd l0 x7_1), .slice A40 (l0.drop (x7_1 : Int).toNat).length (c0 - x7_1.toNat)] (by rfl) rfl rfl (by (try simp only [List.map_toArray, List.map_cons, List.map_nil]); first | done | (rw [show (l0.drop (x7_1 : Int).toNat).length = (l0.length - x7_1.toNat) from List.length_drop] <;> rfl) | rfl | (simp only [List.length_drop, List.length_take]; rfl)) ?_
                            with_reducible refine (marshallinglaw03_own.calls kj5 (rd l0 x7_1) _ _ (l0.drop (x7_1 : Int).toNat) t306 t307 _ ?side1 ?side2 A13.out).mono ?_
                            (case side1 => repeat (first | exact (Kd.C_below HR305.out HB.out) | (with_reducible refine Kd.C_alloc ?_ _) | (with_reducible refine Kd.C_drewN ?_ _) | (with_reducible refine Kd.C_drew ?_)))
                            (case side2 => exact HC305.out)
                            rintro e w42 ⟨v308, rfl, ho0, hb⟩
                            refine ⟨_, rfl, ?_⟩
                            have n0_ := Aside0.mk (Kd.S_elder' (by (with_reducible repeat (first | apply Kd.S_alloc | apply Kd.S_drewN | apply Kd.S_drew)); exact HO_6.out) (Kd.R_base ho0) hb)
                            have n1_ := Aside0.mk (Kd.R_lower ho0 (below_size (by repeat (first | (with_reducible first | exact HB.out | apply below_alloc | apply pw_below_drewN | apply below_drew1 | refine below_set ?_ GE310.out) | exact HB.out))))
                            have n2_ := Aside0.mk (blk_below (g := gb310) (o := .cells #[.string (⟨#[]⟩ : ByteArray), .slice none 0 0] 28 (0, 0)) (by (with_reducible repeat (first | refine blk_drewN ?_ _ | refine blk_drew ?_ | refine blk_alloc ?_ _)); exact BK310.out) hb)
                            have n3_ := Aside0.mk (below_step (by repeat (first | (with_reducible first | exact HB.out | apply below_alloc | apply pw_below_drewN | apply below_drew1 | refine below_set ?_ GE310.out) | exact HB.out)) hb)
                            clear HO_6
                            clear BK310
                            clear HB
                            have HO_6 := n0_
                            have HO309 := n1_
                            have BK310 := n2_
                            have HB := n3_
                            clear n0_ n1_ n2_ n3_
                            (try clear hb)
                            (try clear hb2)
                            (try clear hk)
                            (try clear hi)
                            (try clear ho0)
                            refine hK.out _ _ (((HB.out.cell (World.block_lt_of_cell? w _ hw304_0)).trans hw304_0)) (fun hHeld => ?_)
                            clear hK K
                            refine norm_ (a' := ?_) ?_ ?_
                            rotate_left
                            · show Act.put _ (some 35) _ = _
                              simp only [Act.put, List.setIfInBounds_toArray, List.set_cons_zero, List.set_cons_succ, i64_w, i32_w]
                              rfl
                            exact norm_ (by simp only [putAll, Act.put, List.setIfInBounds_toArray, List.set_cons_zero, List.set_cons_succ]) (hCont (v308, gb310) _ ⟨hHeld, (by (with_reducible repeat (first | apply Kd.R_alloc | apply Kd.R_drewN | apply Kd.R_drew)); exact HO309.out), (by (with_reducible repeat (first | apply Kd.S_alloc | apply Kd.S_drewN | apply Kd.S_drew)); exact Kd.S_mono HO_6.out (fun _ hk => ⟨hk.2, hk.1.2⟩)), (by (with_reducible repeat (first | refine blk_drewN ?_ _ | refine blk_drew ?_ | refine blk_alloc ?_ _)); exact BK310.out), GW310.out, GE310.out, (by repeat (first | (with_reducible first | exact HB.out | apply below_alloc | apply pw_below_drewN | apply below_drew1 | refine below_set ?_ GE310.out) | exact HB.out))⟩)
                        rintro ⟨v308, gb310⟩ w43 ⟨hS_, h0_, h1_, h2_, h3_, h4_, h5_⟩
                        have n0_ : Aside0 (Kd.R k60 60 w43 w.heap.size (fun _ => True) v308 t307) := ⟨h0_⟩
                        have n1_ : Aside0 (Kd.S k28 28 w43 w.heap.size (fun k_ => some k_ ≠ (v308 : Value).ownBlock ∧ k_ ≠ gb310) u6 x6_1) := ⟨h1_⟩
                        have n2_ : Aside0 (w43.heap[gb310]? = some (.cells #[.string (⟨#[]⟩ : ByteArray), .slice none 0 0] 28 (0, 0))) := ⟨h2_⟩
                        have n3_ : Aside0 (w.heap.size ≤ gb310) := ⟨h3_⟩
                        have n4_ : Aside0 (w.heap.size ≤ gb310) := ⟨h4_⟩
                        have n5_ : Aside0 (Below w.heap.size w w43) := ⟨h5_⟩
                        clear HO_6
                        clear HB
                        clear h0_ h1_ h2_ h3_ h4_ h5_
                        have HO309 := n0_
                        have HO_6 := n1_
                        have BK310 := n2_
                        have GW310 := n3_
                        have GE310 := n4_
                        have HB := n5_
                        clear n0_ n1_ n2_ n3_ n4_ n5_
                        have hHeld : w43.cell? (ad304.add (x7_1).toNat) = some (.int .u8 (rd l0 x7_1)) := hS_
                        obtain ⟨Ao45, co45, eo45⟩ := Kd.R_slice HO309.out
                        (first | subst eo45 | (injection eo45 with f1_ f2_ f3_; have f4_ := f1_.symm; have f5_ := f3_.symm; clear f1_ f2_ f3_; subst f4_; subst f5_))
                        refine norm_ (a' := ?_) ?_ ?_
                        rotate_left
                        · simp only [putAll, Act.put, List.setIfInBounds_toArray, List.set_cons_zero, List.set_cons_succ]
                          rfl
                        refine one_ (i := 9) (N := none) #[true, true, true, true, true, true, true, true, true, true] rfl rfl (one_of HT_.out (by kernel_rfl)) (by decide) (fun K hK => ?_)
                        have hs44 : w43.cell? ⟨gb310, 0, none⟩ = some (.string (⟨#[]⟩ : ByteArray)) := (blk_cell BK310.out 0).trans rfl
                        have hfs44 := blk_frozen BK310.out 0
                        have hs46 : w43.cell? ⟨gb310, 1, none⟩ = some (.slice none 0 0) := (blk_cell BK310.out 1).trans rfl
                        have hfs46 := blk_frozen BK310.out 1
                        refine skip_ (w1 := ?_) (by rfl) rfl ?_ ?_
                        rotate_left
                        · go_simp
                          rfl
                        refine hK.out _ _ (((cell_far (p := ⟨gb310, _, none⟩) (by first | exact Nat.ne_of_lt (Nat.lt_of_lt_of_le (by have := World.block_lt_of_cell? _ _ hw304_0; first | rwa [add_block] at this | exact this) GW310.out) | (rw [add_block]; exact Nat.ne_of_lt (Nat.lt_of_lt_of_le (by have := World.block_lt_of_cell? _ _ hw304_0; first | rwa [add_block] at this | exact this) GW310.out)) | (show (Addr.add _ _).block ≠ _; rw [add_block]; exact Nat.ne_of_lt (Nat.lt_of_lt_of_le (by have := World.block_lt_of_cell? _ _ hw304_0; first | rwa [add_block] at this | exact this) GW310.out)) | (dsimp only; exact Nat.ne_of_lt (Nat.lt_of_lt_of_le (by have := World.block_lt_of_cell? _ _ hw304_0; first | rwa [add_block] at this | exact this) GW310.out))) _).trans (((cell_far (p := ⟨gb310, _, none⟩) (by first | exact Nat.ne_of_lt (Nat.lt_of_lt_of_le (by have := World.block_lt_of_cell? _ _ hw304_0; first | rwa [add_block] at this | exact this) GW310.out) | (rw [add_block]; exact Nat.ne_of_lt (Nat.lt_of_lt_of_le (by have := World.block_lt_of_cell? _ _ hw304_0; first | rwa [add_block] at this | exact this) GW310.out)) | (show (Addr.add _ _).block ≠ _; rw [add_block]; exact Nat.ne_of_lt (Nat.lt_of_lt_of_le (by have := World.block_lt_of_cell? _ _ hw304_0; first | rwa [add_block] at this | exact this) GW310.out)) | (dsimp only; exact Nat.ne_of_lt (Nat.lt_of_lt_of_le (by have := World.block_lt_of_cell? _ _ hw304_0; first | rwa [add_block] at this | exact this) GW310.out))) _).trans (hHeld))))) (fun hHeld => ?_)
                        clear hK K
                        refine done_ (done_of HT_.out (by kernel_rfl)) ?_
                        have n0_ : Aside0 (Kd.S k28 28 ((w43.setCell ⟨gb310, 0, none⟩ (.string t306)).setCell ⟨gb310, 1, none⟩ (.slice Ao45 t307.length co45)) w.heap.size (fun k_ => some k_ ≠ (.slice Ao45 t307.length co45 : Value).ownBlock ∧ k_ ≠ gb310) u6 x6_1) := ⟨by (with_reducible repeat (first | apply Kd.S_alloc | apply Kd.S_drewN | apply Kd.S_drew)); exact Kd.S_mono (Kd.S_far (p := ⟨gb310, 1, none⟩) (Kd.S_far (p := ⟨gb310, 0, none⟩) (Kd.S_mono HO_6.out (fun k_ hk => (⟨hk, hk.2⟩ : _ ∧ k_ ≠ gb310))) (fun _ hk => hk.2) (.string t306)) (fun _ hk => hk.2) (.slice Ao45 t307.length co45)) (fun _ hk => ⟨hk.1.1, hk.1.2⟩)⟩
                        have n1_ : Aside0 (Kd.R k60 60 ((w43.setCell ⟨gb310, 0, none⟩ (.string t306)).setCell ⟨gb310, 1, none⟩ (.slice Ao45 t307.length co45)) w.heap.size (fun _ => True) (.slice Ao45 t307.length co45) t307) := ⟨by (with_reducible repeat (first | apply Kd.R_alloc | apply Kd.R_drewN | apply Kd.R_drew)); exact Kd.R_mono (Kd.R_far (p := ⟨gb310, 1, none⟩) (Kd.R_far (p := ⟨gb310, 0, none⟩) (Kd.R_types HO309.out BK310.out (by decide)) (fun _ hk => hk.2) (.string t306)) (fun _ hk => hk.2) (.slice Ao45 t307.length co45)) (fun _ hk => trivial)⟩
                        have n2_ : Aside0 (((w43.setCell ⟨gb310, 0, none⟩ (.string t306)).setCell ⟨gb310, 1, none⟩ (.slice Ao45 t307.length co45)).heap[gb310]? = some (.cells #[.string t306, .slice Ao45 t307.length co45] 28 (0, 0))) := ⟨by (with_reducible repeat (first | refine blk_drewN ?_ _ | refine blk_drew ?_ | refine blk_alloc ?_ _)); refine blk_put (cs := #[.string t306, .slice none 0 0]) ?_ 1 _ rfl; (with_reducible repeat (first | refine blk_drewN ?_ _ | refine blk_drew ?_ | refine blk_alloc ?_ _)); refine blk_put (cs := #[.string (⟨#[]⟩ : ByteArray), .slice none 0 0]) ?_ 0 _ rfl; (with_reducible repeat (first | refine blk_drewN ?_ _ | refine blk_drew ?_ | refine blk_alloc ?_ _)); exact BK310.out⟩
                        have n3_ : Aside0 (Below w.heap.size w ((w43.setCell ⟨gb310, 0, none⟩ (.string t306)).setCell ⟨gb310, 1, none⟩ (.slice Ao45 t307.length co45))) := ⟨by repeat (first | (with_reducible first | exact HB.out | apply below_alloc | apply pw_below_drewN | apply below_drew1 | refine below_set ?_ GE310.out) | exact HB.out)⟩
                        (try clear HO_6)
                        (try clear HO309)
                        (try clear BK310)
                        (try clear HB)
                        generalize ((w43.setCell ⟨gb310, 0, none⟩ (.string t306)).setCell ⟨gb310, 1, none⟩ (.slice Ao45 t307.length co45)) = w47 at n0_ n1_ n2_ n3_ ⊢
                        have HO_6 := n0_
                        have HO309 := n1_
                        have BK310 := n2_
                        have HB := n3_
                        clear n0_ n1_ n2_ n3_
                        have p311 : 0 ≤ (x7_1 : Int) := of_decide_eq_true (by first | (with_reducible assumption) | assumption)
                        have q311 : x7_1 < (l0.length : Int) := of_decide_eq_true (by first | (with_reducible assumption) | assumption)
                        obtain ⟨ad311, e311, hx311_0⟩ := Kd.at_int HR0.out x7_1 p311 q311
                        obtain rfl : ad304 = ad311 := (by injection e311)
                        replace hx311_0 := (HB.out.cell (World.block_lt_of_cell? w _ hx311_0)).trans hx311_0
                        replace p311 := eq_true p311
                        replace q311 := eq_true q311
                        have hcz48_0 : w47.cell? ⟨gb310, 0, none⟩ = some (.string t306) := (blk_cell BK310.out 0).trans rfl
                        have hcz48_1 : w47.cell? ⟨gb310, 1, none⟩ = some (.slice Ao45 t307.length co45) := (blk_cell BK310.out 1).trans rfl
                        have hfz48_0 := blk_frozen BK310.out 0
                        have hfz48_1 := blk_frozen BK310.out 1
                        try go_wp2_with (first | ((with_reducible refine gate_builtin (b := .append) (xs := #[.tmp 54, .tmp 56]) rfl ?_); (try (refine gate_guard (by rfl) ?_; dsimp only)); at_builtin; refine Kd.S_append k28 (w0 := w) w.heap.size rfl (.tmp 54) (.tmp 56) 22 28 (.agg #[(.string ⟨#[]⟩), (.slice none 0 0)]) 40 rfl Tryd.underlying22 info28 rfl (by decide) (by omega) u6 x6_1 (⟨t306, t307⟩ : S28) [.string t306, .slice Ao45 t307.length co45] (fun k_ => k_ ≠ gb310) (fun k_ => some k_ = (.slice Ao45 t307.length co45 : Value).ownBlock) rfl rfl ?aP (fun k_ hk_ => ((Kd.R_mono (ok' := fun k_ => ((fun k_ => k_ ≠ gb310)) k_ ∧ some k_ ≠ (u6 : Value).ownBlock) (Kd.R_types (Kd.R_apart' (HO309.out) (Kd.S_typed HO_6.out) (by decide)) BK310.out (by decide)) (fun k_ hk => ⟨hk.2, hk.1.2⟩))).1 k_ hk_.symm) ?aF ?aO ?aB ?aS ?aL ?_; (case aP => exact k28_mkM _ _ _ (⟨t306, t307⟩ : S28) (Kd.R_mono (Kd.R_tight rfl (Kd.R_mono (ok' := fun k_ => ((fun k_ => k_ ≠ gb310)) k_ ∧ some k_ ≠ (u6 : Value).ownBlock) (Kd.R_types (Kd.R_apart' (HO309.out) (Kd.S_typed HO_6.out) (by decide)) BK310.out (by decide)) (fun k_ hk => ⟨hk.2, hk.1.2⟩))) (fun _ h_ => h_))); (case aB => exact (by repeat (first | (with_reducible first | exact HB.out | apply below_alloc | apply pw_below_drewN | apply below_drew1 | refine below_set ?_ GE310.out) | exact HB.out))); (case aF => exact (fun k_ hk => Kd.freshB (g := gb310) (o := .cells #[.string t306, .slice Ao45 t307.length co45] 28 (0, 0)) (by (with_reducible repeat (first | refine blk_drewN ?_ _ | refine blk_drew ?_ | refine blk_alloc ?_ _)); exact BK310.out) k_ hk)); (case aO => exact (by (with_reducible repeat (first | apply Kd.S_alloc | apply Kd.S_drewN | apply Kd.S_drew)); exact Kd.S_mono HO_6.out (fun k_ hk => ⟨hk.2, fun e_ => hk.1 e_⟩))); (case aS => exact (below_size (by repeat (first | (with_reducible first | exact HB.out | apply below_alloc | apply pw_below_drewN | apply below_drew1 | refine below_set ?_ GE310.out) | exact HB.out)))); (case aL => have := LMc38.out; omega); intro v320 w49 ho hb hg hat; rw [← Ny319.out] at ho; have n0_ := Aside0.mk (blk_grown (g := gb310) (o := .cells #[.string t306, .slice Ao45 t307.length co45] 28 (0, 0)) (by (with_reducible repeat (first | refine blk_drewN ?_ _ | refine blk_drew ?_ | refine blk_alloc ?_ _)); exact BK310.out) hg (Kd.S_away HO_6.out (fun _ hk => hk.2))); have n1_ := Aside0.mk (hb); have n2_ := Aside0.mk (ho); clear BK310; clear HB; clear HO_6; clear HO309; have BK310 := n0_; have HB := n1_; have HO321 := n2_; clear n0_ n1_ n2_; clear ho hb hg hat))
                        go_roundg kj5
                        case measure => have := HK1.out; have := HJ5.out; omega
                        case rel => exact ⟨(y319), (wrap64 (x7_1 + 1)), (by first | rfl | (simp; done) | (simp [*]; done)), H', ⟨by have := HK1.out; have := HJ5.out; omega⟩, ⟨by (with_reducible repeat (first | apply Kd.S_alloc | apply Kd.S_drewN | apply Kd.S_drew)); exact Kd.S_mono HO321.out (fun _ hk => trivial)⟩, ⟨by repeat (first | (with_reducible first | exact HB.out | apply below_alloc | apply pw_below_drewN | apply below_drew1 | refine below_set ?_ GE310.out) | exact HB.out)⟩⟩
                      · rw [if_neg c38] at H
                        exact absurd H (by simp)
                  · rw [if_neg c12] at H
                    exact absurd H (by simp)
                · rw [if_neg c10] at H
                  exact absurd H (by simp)
              · rw [if_neg c9] at H
                exact absurd H (by simp)
            · replace c8 := Bool.eq_false_iff.mpr c8
              subst c8
              have H1 : (if a1 > 250 then (marshallinglaw03_StreamAll.j2 kj5 a1 true x6_1 (decide ((x6_1.length : Int) > 0))) else (marshallinglaw03_StreamAll.j2 kj5 a1 true x6_1 false)) = some r := by rw [if_neg (show ¬ (false = true) by decide)] at H; exact H
              clear H
              have H := H1
              clear H1
              have HC50 := Aside0.mk H
              clear H
              go_upto_region 12 with (fail)
              go_cut [64] (fun v64 wc => ∃ (kq : Nat) (x64_49 : Bool), v64 = .bool x64_49 ∧ Aside0 (marshallinglaw03_StreamAll.j2 kq a1 true x6_1 x64_49 = some r) ∧ Aside0 (kq ≤ kj5) ∧ Aside0 (Kd.S k28 28 wc w.heap.size (fun _ => True) u6 x6_1) ∧ Aside0 (Below w.heap.size w wc))
              case first =>
                have H := HC50.out
                clear HC50
                by_cases c51 : a1 > 250
                · rw [if_pos c51] at H
                  have c51b0 : decide (250 < a1) = true := decide_eq_true c51
                  clear c51
                  (first | rw [c51b0] | (simp only [i64_w, i32_w]; rw [c51b0]) | skip)
                  have H' := Aside0.mk H
                  clear H
                  obtain ⟨Ao52, co52, eo52⟩ := Kd.S_slice HO_6.out
                  subst eo52
                  go_wp2
                  go_meet
                  case rel => exact ⟨_, (decide ((x6_1.length : Int) > 0)), (by first | rfl | (simp; done) | (simp [*]; done)), H', ⟨by have := HK1.out; have := HJ5.out; first | omega | exact Nat.le_refl _⟩, ⟨by (with_reducible repeat (first | apply Kd.S_alloc | apply Kd.S_drewN | apply Kd.S_drew)); exact HO_6.out⟩, ⟨by repeat (first | (with_reducible first | exact HB.out | apply below_alloc | apply pw_below_drewN | apply below_drew1) | exact HB.out)⟩⟩
                · rw [if_neg c51] at H
                  have c51b0 : decide (250 < a1) = false := decide_eq_false c51
                  clear c51
                  (first | rw [c51b0] | (simp only [i64_w, i32_w]; rw [c51b0]) | skip)
                  have H' := Aside0.mk H
                  clear H
                  go_wp2
                  go_meet
                  case rel => exact ⟨_, (false), (by first | rfl | (simp; done) | (simp [*]; done)), H', ⟨by have := HK1.out; have := HJ5.out; first | omega | exact Nat.le_refl _⟩, ⟨by (with_reducible repeat (first | apply Kd.S_alloc | apply Kd.S_drewN | apply Kd.S_drew)); exact HO_6.out⟩, ⟨by repeat (first | (with_reducible first | exact HB.out | apply below_alloc | apply pw_below_drewN | apply below_drew1) | exact HB.out)⟩⟩
              case rest =>
                clear HC50
                try clear c1
                try clear c2
                try clear p2
                try clear c3
                try clear p3
                try clear q3
                try clear hx3
                try clear qi3
                try clear c5
                try clear p6
                try clear c8
                try clear c9
                try clear c10
                try clear c12
                try clear c14
                try clear c14b0
                try clear c16
                try clear c17
                try clear c18
                try clear c19
                try clear c20
                try clear p30
                try clear q30
                try clear hx30
                try clear p31
                try clear q31
                try clear hx31
                try clear qi31
                try clear c38
                try clear c51
                try clear c51b0
                try clear hcz36_0
                try clear hcz36_1
                try clear hcz48_0
                try clear hcz48_1
                try clear hfz36_0
                try clear hfz36_1
                try clear hfz48_0
                try clear hfz48_1
                try clear hx304_0
                try clear hx311_0
                try clear hx315_0
                try clear p304
                try clear p311
                try clear p315
                try clear q304
                try clear q311
                try clear q315
                obtain ⟨kq, x64_49, rfl, HA, HJ49, HO_6, HB⟩ := hcut
                cases kq with
                | zero => exact absurd HA.out (by simp [marshallinglaw03_StreamAll.j2])
                | succ kj49 =>
                  have H := HA.out
                  clear HA
                  simp only [marshallinglaw03_StreamAll.j2] at H
                  have HC53 := Aside0.mk H
                  clear H
                  go_upto_if 64 with (fail)
                  go_cut [] (fun wc => ∃ (kq : Nat) (x6_52 : List (S28)), Aside0 (marshallinglaw03_StreamAll.j3 kq a1 true x6_52 = some r) ∧ Aside0 (kq ≤ kj49) ∧ Aside0 (Kd.S k28 28 wc w.heap.size (fun _ => True) u6 x6_52) ∧ Aside0 (Below w.heap.size w wc))
                  case first =>
                    have H := HC53.out
                    clear HC53
                    by_cases c54 : x64_49 = true
                    · subst c54
                      have H1 : (if (x6_1.length : Int) = 0 then (none) else (if 0 ≤ (Int.tmod (wrap64 (a1)) (x6_1.length : Int)) then (if (Int.tmod (wrap64 (a1)) (x6_1.length : Int)) < (x6_1.length : Int) then (marshallinglaw03_StreamAll.j3 kj49 a1 true (x6_1.set ((Int.tmod (wrap64 (a1)) (x6_1.length : Int)) : Int).toNat (⟨(⟨#[66, 89]⟩ : ByteArray), (rd_T28 x6_1 (Int.tmod (wrap64 (a1)) (x6_1.length : Int))).f1⟩ : S28))) else (none)) else (none))) = some r := by rw [if_pos rfl] at H; exact H
                      clear H
                      have H := H1
                      clear H1
                      by_cases c55 : (x6_1.length : Int) = 0
                      · rw [if_pos c55] at H
                        exact absurd H (by simp)
                      · rw [if_neg c55] at H
                        have c55b0 : ((x6_1.length : Int) == 0) = false := beq_eq_false_iff_ne.mpr c55
                        have c55b1 : ((x6_1.length : Int) != 0) = true := bne_iff_ne.mpr c55
                        have c55b2 : ¬ (x6_1 = []) := fun h_ => c55 (by rw [h_]; rfl)
                        (first | rw [c55b0] | (simp only [i64_w, i32_w]; rw [c55b0]) | skip)
                        obtain ⟨ji56, hji56⟩ : ∃ j_ : Int, (Int.tmod (wrap64 (a1)) (x6_1.length : Int)) = j_ := ⟨_, rfl⟩
                        replace H : (if 0 ≤ (ji56) then (if (ji56) < (x6_1.length : Int) then (marshallinglaw03_StreamAll.j3 kj49 a1 true (x6_1.set ((ji56) : Int).toNat (⟨(⟨#[66, 89]⟩ : ByteArray), (rd_T28 x6_1 (ji56)).f1⟩ : S28))) else (none)) else (none)) = some r := by first | (rw [hji56] at H; exact H) | (simp only [hji56] at H ⊢; exact H)
                        by_cases c57 : 0 ≤ (ji56)
                        · rw [if_pos c57] at H
                          have c57b0 : decide (0 ≤ (ji56)) = true := decide_eq_true c57
                          clear c57
                          by_cases c58 : (ji56) < (x6_1.length : Int)
                          · rw [if_pos c58] at H
                            have c58b0 : decide ((ji56) < (x6_1.length : Int)) = true := decide_eq_true c58
                            clear c58
                            obtain ⟨y322, hy322⟩ : ∃ y_ : List (S28), y_ = (x6_1.set ((ji56) : Int).toNat (⟨(⟨#[66, 89]⟩ : ByteArray), (rd_T28 x6_1 (ji56)).f1⟩ : S28)) := ⟨_, rfl⟩
                            replace H : (marshallinglaw03_StreamAll.j3 kj49 a1 true y322) = some r := by first | (rw [hy322]; with_reducible exact H) | (have H2_ := (Option.bind_some _ _).symm.trans H; rw [hy322]; with_reducible exact H2_) | (have H2_ := (Option.bind_some _ _).symm.trans H; with_reducible exact H2_) | with_reducible exact H | (rw [hy322]; exact H) | exact H
                            have Ny322 := Aside0.mk hy322
                            clear hy322
                            have H' := Aside0.mk H
                            clear H
                            obtain ⟨Ao60, co60, eo60⟩ := Kd.S_slice HO_6.out
                            subst eo60
                            have p59 : 0 ≤ ((ji56) : Int) := of_decide_eq_true (by first | (with_reducible assumption) | assumption)
                            have q59 : ((ji56) : Int) < ((x6_1.length : Int) : Int) := of_decide_eq_true (by first | (with_reducible assumption) | assumption)
                            obtain ⟨go59, co59, eo59, gb59, gl59, cl59, HG59⟩ := Kd.S_form HO_6.out (by omega)
                            (first | cases eo59 | (injection eo59 with ea_ en_ ec_; (first | subst ea_ | (injection ea_ with ea_; subst ea_)); subst ec_; clear en_))
                            have GB59 := Aside0.mk gb59
                            have GG59 := Aside0.mk HG59
                            clear gb59 gl59 HG59
                            obtain ⟨_, ce59, hcl59, hM59, hcc59, hfr59, _, _⟩ := Kd.S_elem HO_6.out z28 ((ji56) : Int) p59 q59
                            obtain ⟨ve59_1, rfl, ge59_1⟩ := k28_openM hM59
                            have hx59_0 : wc.cell? ⟨go59, ((ji56) : Int).toNat * 2, none⟩ = some (.string ((rd_T28 x6_1 (ji56)).f0)) := hcc59 0 _ rfl
                            have hx59_1 : wc.cell? ⟨go59, ((ji56) : Int).toNat * 2 + 1, none⟩ = some (ve59_1) := hcc59 1 _ rfl
                            have hf59_0 : wc.frozen? ⟨go59, ((ji56) : Int).toNat * 2, none⟩ = false := hfr59 0
                            have hf59_1 : wc.frozen? ⟨go59, ((ji56) : Int).toNat * 2 + 1, none⟩ = false := hfr59 1
                            clear hcl59 hcc59 hfr59 hM59
                            replace p59 := eq_true p59
                            replace q59 := eq_true q59
                            have HX61 := Aside0.mk (show Kd.S k28 28 wc w.heap.size (fun k_ => ((fun _ => True)) k_ ∧ ¬ ((fun _ => False)) k_) (.slice (some ⟨go59, 0, none⟩) x6_1.length co60) x6_1 from (by (with_reducible repeat (first | apply Kd.S_alloc | apply Kd.S_drewN | apply Kd.S_drew)); exact Kd.S_mono HO_6.out (fun k_ hk => ⟨trivial, fun e_ => e_⟩)))
                            obtain ⟨oki61, ce61, hcl61, hM61, hcc61, hfr61, hoki61, hH61⟩ := Kd.S_elem HX61.out z28 ((ji56) : Int) (of_decide_eq_true (by first | (with_reducible assumption) | assumption)) (by have h_ : ((ji56) : Int) < ((x6_1.length : Int) : Int) := of_decide_eq_true (by first | (with_reducible assumption) | assumption); first | exact h_ | (have e_ := (Kd.S_reads' HO_6.out).1; omega) | simpa using h_)
                            obtain ⟨ve61_1, rfl, ge61_1⟩ := k28_openM hM61
                            have HP61 := Kd.S_seg hH61 (of_decide_eq_true (by first | (with_reducible assumption) | assumption)) (by have h_ : ((ji56) : Int) < ((x6_1.length : Int) : Int) := of_decide_eq_true (by first | (with_reducible assumption) | assumption); first | exact h_ | (have e_ := (Kd.S_reads' HO_6.out).1; omega) | simpa using h_) (seg := [.string (⟨#[66, 89]⟩ : ByteArray)]) (j := 0) (show 1 ≤ 2 from by decide) (x' := (⟨(⟨#[66, 89]⟩ : ByteArray), (rd_T28 x6_1 (ji56)).f1⟩ : S28)) (k28_mkM _ _ _ (⟨(⟨#[66, 89]⟩ : ByteArray), (rd_T28 x6_1 (ji56)).f1⟩ : S28) (Kd.R_mono ge61_1 (fun _ h_ => Or.inl h_))) (fun _ hk => hk) (fun k_ hk_ => hk_.elim)
                            have hx61_0 := hcc61 0 _ rfl
                            (try simp only [show (k28).sz = 2 from rfl, Nat.mul_one, Nat.add_zero] at hx61_0)
                            have hf61_0 := hfr61 0
                            (try simp only [show (k28).sz = 2 from rfl, Nat.mul_one, Nat.add_zero] at hf61_0)
                            clear hcl61 hcc61 hfr61 hM61 hoki61 hH61
                            go_wp2_with (first | ((with_reducible refine gate_store (t := 9) (p := 72) rfl ?_); refine store_event (t := 9) (p := 72) (v := ?vo_w62) (w1 := (wc.setCell ⟨go59, ((ji56) : Int).toNat * 2, none⟩ (.string (⟨#[66, 89]⟩ : ByteArray)))) ?hg ?ho ?hn ?hr ?_; (case ho => rfl); (case hg => rfl); (case hn => rfl); (case hr => first | (go_simp; done) | (go_simp; rfl)); intro w62 hw; have hg : wc.grownBy w62 (some go59) := (by rw [hw]; exact HP61.2); have hp_ : Kd.S k28 28 w62 w.heap.size (fun _ => True) (.slice (some ⟨go59, 0, none⟩) x6_1.length co60) y322 := (by rw [hw, Ny322.out]; exact HP61.1); clear HP61; have n0_ := Aside0.mk (hp_); have n1_ := Aside0.mk ((by rw [hw]; exact below_set (HB.out) GB59.out : Below w.heap.size w w62)); clear HO_6; clear HB; have HO_6 := n0_; have HB := n1_; clear n0_ n1_; clear hg hw hp_))
                            go_meet
                            case rel => exact ⟨_, (y322), H', ⟨by have := HK1.out; have := HJ5.out; have := HJ49.out; first | omega | exact Nat.le_refl _⟩, ⟨by (with_reducible repeat (first | apply Kd.S_alloc | apply Kd.S_drewN | apply Kd.S_drew)); exact HO_6.out⟩, ⟨by repeat (first | (with_reducible first | exact HB.out | apply below_alloc | apply pw_below_drewN | apply below_drew1) | exact HB.out)⟩⟩
                          · rw [if_neg c58] at H
                            exact absurd H (by simp)
                        · rw [if_neg c57] at H
                          exact absurd H (by simp)
                    · replace c54 := Bool.eq_false_iff.mpr c54
                      subst c54
                      have H1 : (marshallinglaw03_StreamAll.j3 kj49 a1 true x6_1) = some r := by rw [if_neg (show ¬ (false = true) by decide)] at H; exact H
                      clear H
                      have H := H1
                      clear H1
                      have H' := Aside0.mk H
                      clear H
                      go_wp2
                      go_meet
                      case rel => exact ⟨_, (x6_1), H', ⟨by have := HK1.out; have := HJ5.out; have := HJ49.out; first | omega | exact Nat.le_refl _⟩, ⟨by (with_reducible repeat (first | apply Kd.S_alloc | apply Kd.S_drewN | apply Kd.S_drew)); exact HO_6.out⟩, ⟨by repeat (first | (with_reducible first | exact HB.out | apply below_alloc | apply pw_below_drewN | apply below_drew1) | exact HB.out)⟩⟩
                  case rest =>
                    clear HC53
                    try clear c1
                    try clear c2
                    try clear p2
                    try clear c3
                    try clear p3
                    try clear q3
                    try clear hx3
                    try clear qi3
                    try clear c5
                    try clear p5
                    try clear q5
                    try clear hx5
                    try clear hf5
                    try clear c6
                    try clear p6
                    try clear hx6
                    try clear hf6
                    try clear c8
                    try clear c9
                    try clear c10
                    try clear c12
                    try clear c14
                    try clear c14b0
                    try clear c16
                    try clear c17
                    try clear c18
                    try clear c19
                    try clear c20
                    try clear p30
                    try clear q30
                    try clear hx30
                    try clear p31
                    try clear q31
                    try clear hx31
                    try clear qi31
                    try clear c38
                    try clear c51
                    try clear c51b0
                    try clear c54
                    try clear c55
                    try clear c55b0
                    try clear c55b1
                    try clear c55b2
                    try clear c57
                    try clear c57b0
                    try clear c58
                    try clear c58b0
                    try clear c59
                    try clear p59
                    try clear q59
                    try clear hx59
                    try clear hf59
                    try clear c61
                    try clear hx61
                    try clear hf61
                    try clear hcz36_0
                    try clear hcz36_1
                    try clear hcz48_0
                    try clear hcz48_1
                    try clear hfz36_0
                    try clear hfz36_1
                    try clear hfz48_0
                    try clear hfz48_1
                    try clear hx304_0
                    try clear hx311_0
                    try clear hx315_0
                    try clear hx59_0
                    try clear hx59_1
                    try clear hx61_0
                    try clear p2
                    try clear p3
                    try clear p30
                    try clear p304
                    try clear p31
                    try clear p311
                    try clear p315
                    try clear p59
                    try clear p6
                    try clear q3
                    try clear q30
                    try clear q304
                    try clear q31
                    try clear q311
                    try clear q315
                    try clear q59
                    obtain ⟨kq, x6_52, HA, HJ52, HO_6, HB⟩ := hcut
                    cases kq with
                    | zero => exact absurd HA.out (by simp [marshallinglaw03_StreamAll.j3])
                    | succ kj52 =>
                      have H := HA.out
                      clear HA
                      simp only [marshallinglaw03_StreamAll.j3] at H
                      replace H := Option.bind_eq_some_iff.mp H
                      obtain ⟨t323, A630, H⟩ := H
                      replace H : (marshallinglaw03_StreamAll.l1 kj52 a1 true x6_52 t323 true 0) = some r := H
                      have A63 := Aside0.mk A630
                      clear A630
                      have H' := Aside0.mk H
                      clear H
                      obtain ⟨Ao64, co64, eo64⟩ := Kd.S_slice HO_6.out
                      subst eo64
                      go_wp2_with (first | ((with_reducible refine gate_callee (f := 18) rfl ?_); refine goesL_ (some 74) rfl rfl Tryd.func18 (by kernel_rfl) rfl #[.slice Ao64 x6_52.length co64] rfl (by (try simp only [List.map_toArray, List.map_cons, List.map_nil]); first | done | rfl | (simp only [List.length_drop, List.length_take]; rfl)) ?_; (with_reducible refine (stream_All.calls kj52 _ _ x6_52 t323 _ ?side1 ?side2 ?side3 A63.out).mono ?_); (case side1 => repeat (first | exact (Kd.S_reads' HO_6.out).2.2 | (with_reducible refine Kd.C_alloc ?_ _) | (with_reducible refine Kd.C_drewN ?_ _) | (with_reducible refine Kd.C_drew ?_))); (case side2 => exact (Kd.S_reads' HO_6.out).2.1); (case side3 => exact Glob.below HG.out (by repeat (first | (with_reducible first | exact HB.out | apply below_alloc | apply pw_below_drewN | apply below_drew1) | exact HB.out))); rintro e w65 ⟨rfl, hb⟩; refine ⟨_, rfl, ?_⟩; have n0_ := Aside0.mk (Kd.S_below (by (with_reducible repeat (first | apply Kd.S_alloc | apply Kd.S_drewN | apply Kd.S_drew)); exact HO_6.out) hb); have n1_ := Aside0.mk (below_step (by repeat (first | (with_reducible first | exact HB.out | apply below_alloc | apply pw_below_drewN | apply below_drew1) | exact HB.out)) hb); clear HO_6; clear HB; have HO_6 := n0_; have HB := n1_; clear n0_ n1_; (try clear hb); (try clear hb2); (try clear hk); (try clear hi)))
                      go_loopg [10, 11] kj52 (fun kq v10 v11 w' => ∃ (x10_5 : Bool) (x11_5 : Int), v10 = .bool x10_5 ∧ v11 = .int .i64 x11_5 ∧ Aside0 (marshallinglaw03_StreamAll.l1 kq a1 true x6_52 t323 x10_5 x11_5 = some r) ∧ Aside0 (kq ≤ kj52) ∧ Aside0 (Kd.S k28 28 w' w.heap.size (fun _ => True) (.slice Ao64 x6_52.length co64) x6_52) ∧ Aside0 (Below w.heap.size w w'))
                      case atStart => exact ⟨(true), (0), (by first | rfl | (simp; done) | (simp [*]; done)), (by first | rfl | (simp; done) | (simp [*]; done)), H', ⟨Nat.le_refl _⟩, ⟨by (with_reducible repeat (first | apply Kd.S_alloc | apply Kd.S_drewN | apply Kd.S_drew)); exact HO_6.out⟩, ⟨by repeat (first | (with_reducible first | exact HB.out | apply below_alloc | apply pw_below_drewN | apply below_drew1) | exact HB.out)⟩⟩
                      case round =>
                        clear H'
                        try clear c1
                        try clear c2
                        try clear p2
                        try clear c3
                        try clear p3
                        try clear q3
                        try clear hx3
                        try clear qi3
                        try clear c5
                        try clear p5
                        try clear q5
                        try clear hx5
                        try clear hf5
                        try clear c6
                        try clear p6
                        try clear hx6
                        try clear hf6
                        try clear c8
                        try clear c9
                        try clear c10
                        try clear c12
                        try clear c14
                        try clear c14b0
                        try clear c16
                        try clear c17
                        try clear c18
                        try clear c19
                        try clear c20
                        try clear p30
                        try clear q30
                        try clear hx30
                        try clear p31
                        try clear q31
                        try clear hx31
                        try clear qi31
                        try clear c38
                        try clear c51
                        try clear c51b0
                        try clear c54
                        try clear c55
                        try clear c55b0
                        try clear c55b1
                        try clear c55b2
                        try clear c57
                        try clear c57b0
                        try clear c58
                        try clear c58b0
                        try clear c59
                        try clear p59
                        try clear q59
                        try clear hx59
                        try clear hf59
                        try clear c61
                        try clear hx61
                        try clear hf61
                        try clear p64
                        try clear hcz36_0
                        try clear hcz36_1
                        try clear hcz48_0
                        try clear hcz48_1
                        try clear hfz36_0
                        try clear hfz36_1
                        try clear hfz48_0
                        try clear hfz48_1
                        try clear hx304_0
                        try clear hx311_0
                        try clear hx315_0
                        try clear hx59_0
                        try clear hx59_1
                        try clear hx61_0
                        try clear p2
                        try clear p3
                        try clear p30
                        try clear p304
                        try clear p31
                        try clear p311
                        try clear p315
                        try clear p5
                        try clear p59
                        try clear p6
                        try clear q3
                        try clear q30
                        try clear q304
                        try clear q31
                        try clear q311
                        try clear q315
                        try clear q5
                        try clear q59
                        obtain ⟨x10_5, x11_5, rfl, rfl, HA, HK5, HO_6, HB⟩ := hrel
                        cases gk with
                        | zero => exact absurd HA.out (by simp [marshallinglaw03_StreamAll.l1])
                        | succ k5 =>
                          have H := HA.out
                          clear HA
                          simp only [marshallinglaw03_StreamAll.l1] at H
                          by_cases c66 : x11_5 < (x6_52.length : Int)
                          · rw [if_pos c66] at H
                            have c66b0 : decide (x11_5 < (x6_52.length : Int)) = true := decide_eq_true c66
                            clear c66
                            have H' := Aside0.mk H
                            clear H
                            go_wp2
                            go_loopg [10, 12] k5 (fun kq v10 v12 w' => ∃ (x10_6 : Bool) (x12_6 : Int), v10 = .bool x10_6 ∧ v12 = .int .i64 x12_6 ∧ Aside0 (marshallinglaw03_StreamAll.l2 kq a1 true x6_52 t323 x10_6 x11_5 x12_6 = some r) ∧ Aside0 (kq ≤ k5) ∧ Aside0 (Kd.S k28 28 w' w.heap.size (fun _ => True) (.slice Ao64 x6_52.length co64) x6_52) ∧ Aside0 (Below w.heap.size w w'))
                            case atStart => exact ⟨(x10_5), (0), (by first | rfl | (simp; done) | (simp [*]; done)), (by first | rfl | (simp; done) | (simp [*]; done)), H', ⟨Nat.le_refl _⟩, ⟨by (with_reducible repeat (first | apply Kd.S_alloc | apply Kd.S_drewN | apply Kd.S_drew)); exact HO_6.out⟩, ⟨by repeat (first | (with_reducible first | exact HB.out | apply below_alloc | apply pw_below_drewN | apply below_drew1) | exact HB.out)⟩⟩
                            case round =>
                              clear H'
                              try clear c1
                              try clear c2
                              try clear p2
                              try clear c3
                              try clear p3
                              try clear q3
                              try clear hx3
                              try clear qi3
                              try clear c5
                              try clear p5
                              try clear q5
                              try clear hx5
                              try clear hf5
                              try clear c6
                              try clear p6
                              try clear hx6
                              try clear hf6
                              try clear c8
                              try clear c9
                              try clear c10
                              try clear c12
                              try clear c14
                              try clear c14b0
                              try clear c16
                              try clear c17
                              try clear c18
                              try clear c19
                              try clear c20
                              try clear p30
                              try clear q30
                              try clear hx30
                              try clear p31
                              try clear q31
                              try clear hx31
                              try clear qi31
                              try clear c38
                              try clear c51
                              try clear c51b0
                              try clear c54
                              try clear c55
                              try clear c55b0
                              try clear c55b1
                              try clear c55b2
                              try clear c57
                              try clear c57b0
                              try clear c58
                              try clear c58b0
                              try clear c59
                              try clear p59
                              try clear q59
                              try clear hx59
                              try clear hf59
                              try clear c61
                              try clear hx61
                              try clear hf61
                              try clear p64
                              try clear c66
                              try clear c66b0
                              try clear hcz36_0
                              try clear hcz36_1
                              try clear hcz48_0
                              try clear hcz48_1
                              try clear hfz36_0
                              try clear hfz36_1
                              try clear hfz48_0
                              try clear hfz48_1
                              try clear hx304_0
                              try clear hx311_0
                              try clear hx315_0
                              try clear hx59_0
                              try clear hx59_1
                              try clear hx61_0
                              try clear p2
                              try clear p3
                              try clear p30
                              try clear p304
                              try clear p31
                              try clear p311
                              try clear p315
                              try clear p5
                              try clear p59
                              try clear p6
                              try clear p64
                              try clear q3
                              try clear q30
                              try clear q304
                              try clear q31
                              try clear q311
                              try clear q315
                              try clear q5
                              try clear q59
                              obtain ⟨x10_6, x12_6, rfl, rfl, HA, HK6, HO_6, HB⟩ := hrel
                              cases gk with
                              | zero => exact absurd HA.out (by simp [marshallinglaw03_StreamAll.l2])
                              | succ k6 =>
                                have H := HA.out
                                clear HA
                                simp only [marshallinglaw03_StreamAll.l2] at H
                                by_cases c67 : x12_6 < x11_5
                                · rw [if_pos c67] at H
                                  have c67b0 : decide (x12_6 < x11_5) = true := decide_eq_true c67
                                  clear c67
                                  by_cases c68 : x10_6 = true
                                  · subst c68
                                    have H1 : (if 0 ≤ x11_5 then (if x11_5 < (x6_52.length : Int) then (if 0 ≤ x12_6 then (if x12_6 < (x6_52.length : Int) then (marshallinglaw03_StreamAll.l2 k6 a1 true x6_52 t323 (((rd_T28 x6_52 x11_5).f0).toList != ((rd_T28 x6_52 x12_6).f0).toList) x11_5 (wrap64 (x12_6 + 1))) else (none)) else (none)) else (none)) else (none)) = some r := by rw [if_pos rfl] at H; exact H
                                    clear H
                                    have H := H1
                                    clear H1
                                    by_cases c69 : 0 ≤ x11_5
                                    · rw [if_pos c69] at H
                                      have c69b0 : decide (0 ≤ x11_5) = true := decide_eq_true c69
                                      clear c69
                                      by_cases c70 : x11_5 < (x6_52.length : Int)
                                      · rw [if_pos c70] at H
                                        have c70b0 : decide (x11_5 < (x6_52.length : Int)) = true := decide_eq_true c70
                                        clear c70
                                        by_cases c71 : 0 ≤ x12_6
                                        · rw [if_pos c71] at H
                                          have c71b0 : decide (0 ≤ x12_6) = true := decide_eq_true c71
                                          clear c71
                                          by_cases c72 : x12_6 < (x6_52.length : Int)
                                          · rw [if_pos c72] at H
                                            have c72b0 : decide (x12_6 < (x6_52.length : Int)) = true := decide_eq_true c72
                                            clear c72
                                            have H' := Aside0.mk H
                                            clear H
                                            try go_wp2
                                            have n0_ := Aside0.mk (Kd.S_drew HO_6.out)
                                            have n1_ := Aside0.mk (below_drew1 HB.out)
                                            clear HO_6
                                            clear HB
                                            have HO_6 := n0_
                                            have HB := n1_
                                            clear n0_ n1_
                                            have p324 : 0 ≤ (x11_5 : Int) := of_decide_eq_true (by first | (with_reducible assumption) | assumption)
                                            have q324 : x11_5 < (x6_52.length : Int) := of_decide_eq_true (by first | (with_reducible assumption) | assumption)
                                            obtain ⟨ad324, A324_1, c324_1, e324, hx324_0, hx324_1, hl324_1, hi324_1⟩ := at_T28 (Kd.S_reads' HO_6.out).2.2 x11_5 p324 q324
                                            cases e324
                                            obtain ⟨ce324, hce324, hMe324, hcc324⟩ := Kd.S_get HO_6.out z28 x11_5 p324 (by first | exact q324 | exact of_decide_eq_true (by first | (with_reducible assumption) | assumption) | (have e_ := (Kd.S_reads' HO_6.out).1; omega))
                                            obtain ⟨ve324_1, rfl, ge324_1⟩ := k28_openM hMe324
                                            have hv324_1 := hcc324 1 _ rfl
                                            rw [add_field _ _ 1 (by omega)] at hv324_1
                                            replace hv324_1 := Option.some.inj (hv324_1.symm.trans hx324_1)
                                            rw [hv324_1] at ge324_1
                                            have HL324_1 := Aside0.mk (show Kd.R k60 60 _ _ _ _ ((rd_T28 x6_52 x11_5).f1) from ge324_1)
                                            clear hv324_1 ge324_1
                                            clear hcc324 hce324
                                            have HR324_1 := Aside0.mk hi324_1
                                            have HC324_1 := Aside0.mk hl324_1
                                            clear hi324_1 hl324_1
                                            replace p324 := eq_true p324
                                            replace q324 := eq_true q324
                                            have p325 : 0 ≤ (x12_6 : Int) := of_decide_eq_true (by first | (with_reducible assumption) | assumption)
                                            have q325 : x12_6 < (x6_52.length : Int) := of_decide_eq_true (by first | (with_reducible assumption) | assumption)
                                            obtain ⟨ad325, A325_1, c325_1, e325, hx325_0, hx325_1, hl325_1, hi325_1⟩ := at_T28 (Kd.S_reads' HO_6.out).2.2 x12_6 p325 q325
                                            obtain rfl : ad324 = ad325 := (by injection e325)
                                            obtain ⟨ce325, hce325, hMe325, hcc325⟩ := Kd.S_get HO_6.out z28 x12_6 p325 (by first | exact q325 | exact of_decide_eq_true (by first | (with_reducible assumption) | assumption) | (have e_ := (Kd.S_reads' HO_6.out).1; omega))
                                            obtain ⟨ve325_1, rfl, ge325_1⟩ := k28_openM hMe325
                                            have hv325_1 := hcc325 1 _ rfl
                                            rw [add_field _ _ 1 (by omega)] at hv325_1
                                            replace hv325_1 := Option.some.inj (hv325_1.symm.trans hx325_1)
                                            rw [hv325_1] at ge325_1
                                            have HL325_1 := Aside0.mk (show Kd.R k60 60 _ _ _ _ ((rd_T28 x6_52 x12_6).f1) from ge325_1)
                                            clear hv325_1 ge325_1
                                            clear hcc325 hce325
                                            have HR325_1 := Aside0.mk hi325_1
                                            have HC325_1 := Aside0.mk hl325_1
                                            clear hi325_1 hl325_1
                                            replace p325 := eq_true p325
                                            replace q325 := eq_true q325
                                            refine start_ (n := 15) (S := fun w' => w'.cell? (ad324.add ((x11_5).toNat * 2)) = some (.string ((rd_T28 x6_52 x11_5).f0)) ∧ w'.cell? ⟨(ad324.add ((x11_5).toNat * 2)).block, (ad324.add ((x11_5).toNat * 2)).off + 1, none⟩ = some (.slice A324_1 ((rd_T28 x6_52 x11_5).f1).length c324_1) ∧ w'.cell? (ad324.add ((x12_6).toNat * 2)) = some (.string ((rd_T28 x6_52 x12_6).f0)) ∧ w'.cell? ⟨(ad324.add ((x12_6).toNat * 2)).block, (ad324.add ((x12_6).toNat * 2)).off + 1, none⟩ = some (.slice A325_1 ((rd_T28 x6_52 x12_6).f1).length c325_1)) (ds := []) #[false, false, false, false, false, false, false, false, false, false, false, false, false, false, false] (by kernel_rfl) rfl rfl ⟨hx324_0, hx324_1, hx325_0, hx325_1⟩ (fun hHeld => ?_); refine with_tabW marshallinglaw03_StreamAll.tab22 marshallinglaw03_StreamAll.bits22 (fun HT_ HW_ => ?_)
                                            generalize wr.drew = w73 at HO_6 HB HL324_1 HL325_1 HR324_1 HR325_1 hx324_0 hx324_1 hx325_0 hx325_1 hHeld ⊢
                                            refine pure_ (i := 0) (N := some 86) (v := ?_) (a' := ?_) #[true, false, false, false, false, false, false, false, false, false, false, false, false, false, false] rfl rfl (any_of HT_.out (by kernel_rfl)) (fun _ _ _ h => h) (Or.inl ⟨by rfl, ?_⟩) ?_ ?_
                                            rotate_left
                                            · intro w'
                                              go_simp
                                              with_reducible rfl
                                            rotate_left
                                            · simp only [Act.put, List.setIfInBounds_toArray, List.set_cons_zero, List.set_cons_succ, i64_w, i32_w]
                                              rfl
                                            refine pure_ (i := 1) (N := some 87) (v := ?_) (a' := ?_) #[true, true, false, false, false, false, false, false, false, false, false, false, false, false, false] rfl rfl (any_of HT_.out (by kernel_rfl)) (fun _ _ _ h => h) (Or.inl ⟨by rfl, ?_⟩) ?_ ?_
                                            rotate_left
                                            · intro w'
                                              go_simp
                                              with_reducible rfl
                                            rotate_left
                                            · simp only [Act.put, List.setIfInBounds_toArray, List.set_cons_zero, List.set_cons_succ, i64_w, i32_w]
                                              rfl
                                            refine pure_ (i := 2) (N := some 88) (v := ?_) (a' := ?_) #[true, true, true, false, false, false, false, false, false, false, false, false, false, false, false] rfl rfl (any_of HT_.out (by kernel_rfl)) (fun _ _ _ h => h) (Or.inl ⟨by rfl, ?_⟩) ?_ ?_
                                            rotate_left
                                            · intro w'
                                              go_simp
                                              with_reducible rfl
                                            rotate_left
                                            · simp only [Act.put, List.setIfInBounds_toArray, List.set_cons_zero, List.set_cons_succ, i64_w, i32_w]
                                              rfl
                                            refine pure_ (i := 3) (N := some 89) (v := ?_) (a' := ?_) #[true, true, true, true, false, false, false, false, false, false, false, false, false, false, false] rfl rfl (any_of HT_.out (by kernel_rfl)) (fun _ _ _ h => h) (Or.inl ⟨by rfl, ?_⟩) ?_ ?_
                                            rotate_left
                                            · intro w'
                                              go_simp
                                              with_reducible rfl
                                            rotate_left
                                            · simp only [Act.put, List.setIfInBounds_toArray, List.set_cons_zero, List.set_cons_succ, i64_w, i32_w]
                                              rfl
                                            refine pure_ (i := 4) (N := some 90) (v := ?_) (a' := ?_) #[true, true, true, true, true, false, false, false, false, false, false, false, false, false, false] rfl rfl (any_of HT_.out (by kernel_rfl)) (fun _ _ _ h => h) (Or.inl ⟨by rfl, ?_⟩) ?_ ?_
                                            rotate_left
                                            · intro w'
                                              go_simp
                                              with_reducible rfl
                                            rotate_left
                                            · simp only [Act.put, List.setIfInBounds_toArray, List.set_cons_zero, List.set_cons_succ, i64_w, i32_w]
                                              rfl
                                            refine pure_ (i := 5) (N := some 91) (v := ?_) (a' := ?_) #[true, true, true, true, true, true, false, false, false, false, false, false, false, false, false] rfl rfl (any_of HT_.out (by kernel_rfl)) (fun _ _ _ h => h) (Or.inl ⟨by rfl, ?_⟩) ?_ ?_
                                            rotate_left
                                            · intro w'
                                              go_simp
                                              with_reducible rfl
                                            rotate_left
                                            · simp only [Act.put, List.setIfInBounds_toArray, List.set_cons_zero, List.set_cons_succ, i64_w, i32_w]
                                              rfl
                                            refine pure_ (i := 7) (N := some 93) (v := ?_) (a' := ?_) #[true, true, true, true, true, true, false, true, false, false, false, false, false, false, false] rfl rfl (any_of HT_.out (by kernel_rfl)) (fun _ _ _ h => h) (Or.inl ⟨by rfl, ?_⟩) ?_ ?_
                                            rotate_left
                                            · intro w'
                                              go_simp
                                              with_reducible rfl
                                            rotate_left
                                            · simp only [Act.put, List.setIfInBounds_toArray, List.set_cons_zero, List.set_cons_succ, i64_w, i32_w]
                                              rfl
                                            refine pure_ (i := 8) (N := some 94) (v := ?_) (a' := ?_) #[true, true, true, true, true, true, false, true, true, false, false, false, false, false, false] rfl rfl (any_of HT_.out (by kernel_rfl)) (fun _ _ _ h => h) (Or.inl ⟨by rfl, ?_⟩) ?_ ?_
                                            rotate_left
                                            · intro w'
                                              go_simp
                                              with_reducible rfl
                                            rotate_left
                                            · simp only [Act.put, List.setIfInBounds_toArray, List.set_cons_zero, List.set_cons_succ, i64_w, i32_w]
                                              rfl
                                            refine pure_ (i := 9) (N := some 95) (v := ?_) (a' := ?_) #[true, true, true, true, true, true, false, true, true, true, false, false, false, false, false] rfl rfl (any_of HT_.out (by kernel_rfl)) (fun _ _ _ h => h) (Or.inl ⟨by rfl, ?_⟩) ?_ ?_
                                            rotate_left
                                            · intro w'
                                              go_simp
                                              with_reducible rfl
                                            rotate_left
                                            · simp only [Act.put, List.setIfInBounds_toArray, List.set_cons_zero, List.set_cons_succ, i64_w, i32_w]
                                              rfl
                                            refine pure_ (i := 10) (N := some 96) (v := ?_) (a' := ?_) #[true, true, true, true, true, true, false, true, true, true, true, false, false, false, false] rfl rfl (any_of HT_.out (by kernel_rfl)) (fun _ _ _ h => h) (Or.inl ⟨by rfl, ?_⟩) ?_ ?_
                                            rotate_left
                                            · intro w'
                                              go_simp
                                              with_reducible rfl
                                            rotate_left
                                            · simp only [Act.put, List.setIfInBounds_toArray, List.set_cons_zero, List.set_cons_succ, i64_w, i32_w]
                                              rfl
                                            refine take_ (i := 6) (N := some 92) (v := ?_) (a' := ?_) #[true, true, true, true, true, true, true, true, true, true, true, false, false, false, false] rfl rfl (take_ofW HT_.out HW_.out (by kernel_rfl)) (fun _ _ _ h => h) (Or.inl ⟨by rfl, ?_⟩) hHeld ?_ ?_
                                            rotate_left
                                            · rintro w' ⟨s0, s1, s2, s3⟩
                                              go_simp
                                              with_reducible rfl
                                            rotate_left
                                            · simp only [Act.put, List.setIfInBounds_toArray, List.set_cons_zero, List.set_cons_succ, i64_w, i32_w]
                                              rfl
                                            refine take_ (i := 11) (N := some 97) (v := ?_) (a' := ?_) #[true, true, true, true, true, true, true, true, true, true, true, true, false, false, false] rfl rfl (take_ofW HT_.out HW_.out (by kernel_rfl)) (fun _ _ _ h => h) (Or.inl ⟨by rfl, ?_⟩) hHeld ?_ ?_
                                            rotate_left
                                            · rintro w' ⟨s0, s1, s2, s3⟩
                                              go_simp
                                              with_reducible rfl
                                            rotate_left
                                            · simp only [Act.put, List.setIfInBounds_toArray, List.set_cons_zero, List.set_cons_succ, i64_w, i32_w]
                                              rfl
                                            refine pure_ (i := 12) (N := some 98) (v := ?_) (a' := ?_) #[true, true, true, true, true, true, true, true, true, true, true, true, true, false, false] rfl rfl (any_of HT_.out (by kernel_rfl)) (fun _ _ _ h => h) (Or.inl ⟨by rfl, ?_⟩) ?_ ?_
                                            rotate_left
                                            · intro w'
                                              go_simp
                                              with_reducible rfl
                                            rotate_left
                                            · simp only [Act.put, List.setIfInBounds_toArray, List.set_cons_zero, List.set_cons_succ, i64_w, i32_w]
                                              rfl
                                            refine pure_ (i := 13) (N := some 99) (v := ?_) (a' := ?_) #[true, true, true, true, true, true, true, true, true, true, true, true, true, true, false] rfl rfl (any_of HT_.out (by kernel_rfl)) (fun _ _ _ h => h) (Or.inl ⟨by rfl, ?_⟩) ?_ ?_
                                            rotate_left
                                            · intro w'
                                              go_simp
                                              with_reducible rfl
                                            rotate_left
                                            · simp only [Act.put, List.setIfInBounds_toArray, List.set_cons_zero, List.set_cons_succ, i64_w, i32_w]
                                              rfl
                                            refine pure_ (i := 14) (N := some 10) (v := ?_) (a' := ?_) #[true, true, true, true, true, true, true, true, true, true, true, true, true, true, true] rfl rfl (any_of HT_.out (by kernel_rfl)) (fun _ _ _ h => h) (Or.inl ⟨by rfl, ?_⟩) ?_ ?_
                                            rotate_left
                                            · intro w'
                                              go_simp
                                              with_reducible rfl
                                            rotate_left
                                            · simp only [Act.put, List.setIfInBounds_toArray, List.set_cons_zero, List.set_cons_succ, i64_w, i32_w]
                                              rfl
                                            refine done_ (done_of HT_.out (by kernel_rfl)) ?_
                                            try go_wp2
                                            go_roundg k6
                                            case measure => have := HK1.out; have := HJ5.out; have := HJ49.out; have := HJ52.out; have := HK5.out; have := HK6.out; omega
                                            case rel => exact ⟨((((rd_T28 x6_52 x11_5).f0).toList != ((rd_T28 x6_52 x12_6).f0).toList)), (wrap64 (x12_6 + 1)), (by first | rfl | (simp; done) | (simp [*]; done)), (by first | rfl | (simp; done) | (simp [*]; done)), H', ⟨by have := HK1.out; have := HJ5.out; have := HJ49.out; have := HJ52.out; have := HK5.out; have := HK6.out; omega⟩, ⟨by (with_reducible repeat (first | apply Kd.S_alloc | apply Kd.S_drewN | apply Kd.S_drew)); exact HO_6.out⟩, ⟨by repeat (first | (with_reducible first | exact HB.out | apply below_alloc | apply pw_below_drewN | apply below_drew1) | exact HB.out)⟩⟩
                                          · rw [if_neg c72] at H
                                            exact absurd H (by simp)
                                        · rw [if_neg c71] at H
                                          exact absurd H (by simp)
                                      · rw [if_neg c70] at H
                                        exact absurd H (by simp)
                                    · rw [if_neg c69] at H
                                      exact absurd H (by simp)
                                  · replace c68 := Bool.eq_false_iff.mpr c68
                                    subst c68
                                    have H1 : (marshallinglaw03_StreamAll.l2 k6 a1 true x6_52 t323 false x11_5 (wrap64 (x12_6 + 1))) = some r := by rw [if_neg (show ¬ (false = true) by decide)] at H; exact H
                                    clear H
                                    have H := H1
                                    clear H1
                                    have H' := Aside0.mk H
                                    clear H
                                    try go_wp2
                                    have n0_ := Aside0.mk (Kd.S_drew HO_6.out)
                                    have n1_ := Aside0.mk (below_drew1 HB.out)
                                    clear HO_6
                                    clear HB
                                    have HO_6 := n0_
                                    have HB := n1_
                                    clear n0_ n1_
                                    refine start_ (n := 15) (S := fun w' => True) (ds := []) #[false, false, false, false, false, false, false, false, false, false, false, false, false, false, false] (by kernel_rfl) rfl rfl trivial (fun hHeld => ?_); refine with_tabW marshallinglaw03_StreamAll.tab22 marshallinglaw03_StreamAll.bits22 (fun HT_ HW_ => ?_)
                                    generalize wr.drew = w74 at HO_6 HB hHeld ⊢
                                    refine pure_ (i := 0) (N := some 86) (v := ?_) (a' := ?_) #[true, false, false, false, false, false, false, false, false, false, false, false, false, false, false] rfl rfl (any_of HT_.out (by kernel_rfl)) (fun _ _ _ h => h) (Or.inl ⟨by rfl, ?_⟩) ?_ ?_
                                    rotate_left
                                    · intro w'
                                      go_simp
                                      with_reducible rfl
                                    rotate_left
                                    · simp only [Act.put, List.setIfInBounds_toArray, List.set_cons_zero, List.set_cons_succ, i64_w, i32_w]
                                      rfl
                                    refine pure_ (i := 1) (N := some 87) (v := ?_) (a' := ?_) #[true, true, false, false, false, false, false, false, false, false, false, false, false, false, false] rfl rfl (any_of HT_.out (by kernel_rfl)) (fun _ _ _ h => h) (Or.inl ⟨by rfl, ?_⟩) ?_ ?_
                                    rotate_left
                                    · intro w'
                                      go_simp
                                      with_reducible rfl
                                    rotate_left
                                    · simp only [Act.put, List.setIfInBounds_toArray, List.set_cons_zero, List.set_cons_succ, i64_w, i32_w]
                                      rfl
                                    refine pure_ (i := 2) (N := some 88) (v := undef) (a' := ?_) #[true, true, true, false, false, false, false, false, false, false, false, false, false, false, false] rfl rfl (any_of HT_.out (by kernel_rfl)) (fun _ _ _ h => h) (Or.inr ⟨by rfl, rfl⟩) ?_ ?_
                                    rotate_left
                                    · simp only [Act.put, List.setIfInBounds_toArray, List.set_cons_zero, List.set_cons_succ, i64_w, i32_w]
                                      rfl
                                    refine pure_ (i := 3) (N := some 89) (v := undef) (a' := ?_) #[true, true, true, true, false, false, false, false, false, false, false, false, false, false, false] rfl rfl (any_of HT_.out (by kernel_rfl)) (fun _ _ _ h => h) (Or.inr ⟨by rfl, rfl⟩) ?_ ?_
                                    rotate_left
                                    · simp only [Act.put, List.setIfInBounds_toArray, List.set_cons_zero, List.set_cons_succ, i64_w, i32_w]
                                      rfl
                                    refine pure_ (i := 4) (N := some 90) (v := undef) (a' := ?_) #[true, true, true, true, true, false, false, false, false, false, false, false, false, false, false] rfl rfl (any_of HT_.out (by kernel_rfl)) (fun _ _ _ h => h) (Or.inr ⟨by rfl, rfl⟩) ?_ ?_
                                    rotate_left
                                    · simp only [Act.put, List.setIfInBounds_toArray, List.set_cons_zero, List.set_cons_succ, i64_w, i32_w]
                                      rfl
                                    refine pure_ (i := 5) (N := some 91) (v := undef) (a' := ?_) #[true, true, true, true, true, true, false, false, false, false, false, false, false, false, false] rfl rfl (any_of HT_.out (by kernel_rfl)) (fun _ _ _ h => h) (Or.inr ⟨by rfl, rfl⟩) ?_ ?_
                                    rotate_left
                                    · simp only [Act.put, List.setIfInBounds_toArray, List.set_cons_zero, List.set_cons_succ, i64_w, i32_w]
                                      rfl
                                    refine pure_ (i := 6) (N := some 92) (v := undef) (a' := ?_) #[true, true, true, true, true, true, true, false, false, false, false, false, false, false, false] rfl rfl (any_of HT_.out (by kernel_rfl)) (fun _ _ _ h => h) (Or.inr ⟨by rfl, rfl⟩) ?_ ?_
                                    rotate_left
                                    · simp only [Act.put, List.setIfInBounds_toArray, List.set_cons_zero, List.set_cons_succ, i64_w, i32_w]
                                      rfl
                                    refine pure_ (i := 7) (N := some 93) (v := undef) (a' := ?_) #[true, true, true, true, true, true, true, true, false, false, false, false, false, false, false] rfl rfl (any_of HT_.out (by kernel_rfl)) (fun _ _ _ h => h) (Or.inr ⟨by rfl, rfl⟩) ?_ ?_
                                    rotate_left
                                    · simp only [Act.put, List.setIfInBounds_toArray, List.set_cons_zero, List.set_cons_succ, i64_w, i32_w]
                                      rfl
                                    refine pure_ (i := 8) (N := some 94) (v := undef) (a' := ?_) #[true, true, true, true, true, true, true, true, true, false, false, false, false, false, false] rfl rfl (any_of HT_.out (by kernel_rfl)) (fun _ _ _ h => h) (Or.inr ⟨by rfl, rfl⟩) ?_ ?_
                                    rotate_left
                                    · simp only [Act.put, List.setIfInBounds_toArray, List.set_cons_zero, List.set_cons_succ, i64_w, i32_w]
                                      rfl
                                    refine pure_ (i := 9) (N := some 95) (v := undef) (a' := ?_) #[true, true, true, true, true, true, true, true, true, true, false, false, false, false, false] rfl rfl (any_of HT_.out (by kernel_rfl)) (fun _ _ _ h => h) (Or.inr ⟨by rfl, rfl⟩) ?_ ?_
                                    rotate_left
                                    · simp only [Act.put, List.setIfInBounds_toArray, List.set_cons_zero, List.set_cons_succ, i64_w, i32_w]
                                      rfl
                                    refine pure_ (i := 10) (N := some 96) (v := undef) (a' := ?_) #[true, true, true, true, true, true, true, true, true, true, true, false, false, false, false] rfl rfl (any_of HT_.out (by kernel_rfl)) (fun _ _ _ h => h) (Or.inr ⟨by rfl, rfl⟩) ?_ ?_
                                    rotate_left
                                    · simp only [Act.put, List.setIfInBounds_toArray, List.set_cons_zero, List.set_cons_succ, i64_w, i32_w]
                                      rfl
                                    refine pure_ (i := 11) (N := some 97) (v := undef) (a' := ?_) #[true, true, true, true, true, true, true, true, true, true, true, true, false, false, false] rfl rfl (any_of HT_.out (by kernel_rfl)) (fun _ _ _ h => h) (Or.inr ⟨by rfl, rfl⟩) ?_ ?_
                                    rotate_left
                                    · simp only [Act.put, List.setIfInBounds_toArray, List.set_cons_zero, List.set_cons_succ, i64_w, i32_w]
                                      rfl
                                    refine pure_ (i := 12) (N := some 98) (v := undef) (a' := ?_) #[true, true, true, true, true, true, true, true, true, true, true, true, true, false, false] rfl rfl (any_of HT_.out (by kernel_rfl)) (fun _ _ _ h => h) (Or.inr ⟨by rfl, rfl⟩) ?_ ?_
                                    rotate_left
                                    · simp only [Act.put, List.setIfInBounds_toArray, List.set_cons_zero, List.set_cons_succ, i64_w, i32_w]
                                      rfl
                                    refine pure_ (i := 13) (N := some 99) (v := ?_) (a' := ?_) #[true, true, true, true, true, true, true, true, true, true, true, true, true, true, false] rfl rfl (any_of HT_.out (by kernel_rfl)) (fun _ _ _ h => h) (Or.inl ⟨by rfl, ?_⟩) ?_ ?_
                                    rotate_left
                                    · intro w'
                                      go_simp
                                      with_reducible rfl
                                    rotate_left
                                    · simp only [Act.put, List.setIfInBounds_toArray, List.set_cons_zero, List.set_cons_succ, i64_w, i32_w]
                                      rfl
                                    refine pure_ (i := 14) (N := some 10) (v := ?_) (a' := ?_) #[true, true, true, true, true, true, true, true, true, true, true, true, true, true, true] rfl rfl (any_of HT_.out (by kernel_rfl)) (fun _ _ _ h => h) (Or.inl ⟨by rfl, ?_⟩) ?_ ?_
                                    rotate_left
                                    · intro w'
                                      go_simp
                                      with_reducible rfl
                                    rotate_left
                                    · simp only [Act.put, List.setIfInBounds_toArray, List.set_cons_zero, List.set_cons_succ, i64_w, i32_w]
                                      rfl
                                    refine done_ (done_of HT_.out (by kernel_rfl)) ?_
                                    try go_wp2
                                    go_roundg k6
                                    case measure => have := HK1.out; have := HJ5.out; have := HJ49.out; have := HJ52.out; have := HK5.out; have := HK6.out; omega
                                    case rel => exact ⟨(false), (wrap64 (x12_6 + 1)), (by first | rfl | (simp; done) | (simp [*]; done)), (by first | rfl | (simp; done) | (simp [*]; done)), H', ⟨by have := HK1.out; have := HJ5.out; have := HJ49.out; have := HJ52.out; have := HK5.out; have := HK6.out; omega⟩, ⟨by (with_reducible repeat (first | apply Kd.S_alloc | apply Kd.S_drewN | apply Kd.S_drew)); exact HO_6.out⟩, ⟨by repeat (first | (with_reducible first | exact HB.out | apply below_alloc | apply pw_below_drewN | apply below_drew1) | exact HB.out)⟩⟩
                                · rw [if_neg c67] at H
                                  have c67b0 : decide (x12_6 < x11_5) = false := decide_eq_false c67
                                  clear c67
                                  have H' := Aside0.mk H
                                  clear H
                                  go_wp2
                                  go_roundg k6
                                  case measure => have := HK1.out; have := HJ5.out; have := HJ49.out; have := HJ52.out; have := HK5.out; have := HK6.out; omega
                                  case rel => exact ⟨(x10_6), (wrap64 (x11_5 + 1)), (by first | rfl | (simp; done) | (simp [*]; done)), (by first | rfl | (simp; done) | (simp [*]; done)), H', ⟨by have := HK1.out; have := HJ5.out; have := HJ49.out; have := HJ52.out; have := HK5.out; have := HK6.out; omega⟩, ⟨by (with_reducible repeat (first | apply Kd.S_alloc | apply Kd.S_drewN | apply Kd.S_drew)); exact HO_6.out⟩, ⟨by repeat (first | (with_reducible first | exact HB.out | apply below_alloc | apply pw_below_drewN | apply below_drew1) | exact HB.out)⟩⟩
                          · rw [if_neg c66] at H
                            have c66b0 : decide (x11_5 < (x6_52.length : Int)) = false := decide_eq_false c66
                            clear c66
                            by_cases c75 : (x6_52.length : Int) > 8
                            · rw [if_pos c75] at H
                              have c75b0 : decide (8 < (x6_52.length : Int)) = true := decide_eq_true c75
                              have c75b1 : decide (8 < x6_52.length) = true := decide_eq_true (by omega)
                              clear c75
                              have H1 : (some (t323 == 4)) = some r := by first | (rw [if_pos rfl] at H; exact H) | (rw [if_pos trivial] at H; exact H) | exact H | simpa using H
                              clear H
                              have H := H1
                              clear H1
                              obtain rfl := Option.some.inj H
                              go_wp2
                              go_ret
                              exact ⟨by first | rfl | (simp [errW_none, errW_some] <;> rfl) | (simp [*, errW_none, errW_some] <;> rfl), by repeat (first | (with_reducible first | exact HB.out | apply below_alloc | apply pw_below_drewN | apply below_drew1) | exact HB.out)⟩
                            · rw [if_neg c75] at H
                              have c75b0 : decide (8 < (x6_52.length : Int)) = false := decide_eq_false c75
                              have c75b1 : decide (8 < x6_52.length) = false := decide_eq_false (by omega)
                              clear c75
                              have H' := Aside0.mk H
                              clear H
                              go_wp2
                              go_loopg [13] k5 (fun kq v13 w' => ∃ (x13_6 : Int), v13 = .int .i64 x13_6 ∧ Aside0 (marshallinglaw03_StreamAll.l3 kq a1 true x6_52 t323 x10_5 x13_6 = some r) ∧ Aside0 (kq ≤ k5) ∧ Aside0 (Kd.S k28 28 w' w.heap.size (fun _ => True) (.slice Ao64 x6_52.length co64) x6_52) ∧ Aside0 (Below w.heap.size w w'))
                              case atStart => exact ⟨(0), (by first | rfl | (simp; done) | (simp [*]; done)), H', ⟨Nat.le_refl _⟩, ⟨by (with_reducible repeat (first | apply Kd.S_alloc | apply Kd.S_drewN | apply Kd.S_drew)); exact HO_6.out⟩, ⟨by repeat (first | (with_reducible first | exact HB.out | apply below_alloc | apply pw_below_drewN | apply below_drew1) | exact HB.out)⟩⟩
                              case round =>
                                clear H'
                                try clear c1
                                try clear c2
                                try clear p2
                                try clear c3
                                try clear p3
                                try clear q3
                                try clear hx3
                                try clear qi3
                                try clear c5
                                try clear p5
                                try clear q5
                                try clear hx5
                                try clear hf5
                                try clear c6
                                try clear p6
                                try clear hx6
                                try clear hf6
                                try clear c7
                                try clear c8
                                try clear c9
                                try clear c10
                                try clear c12
                                try clear c14
                                try clear c14b0
                                try clear c16
                                try clear c17
                                try clear c18
                                try clear c19
                                try clear c20
                                try clear p30
                                try clear q30
                                try clear hx30
                                try clear p31
                                try clear q31
                                try clear hx31
                                try clear qi31
                                try clear c32
                                try clear p32
                                try clear q32
                                try clear hx32
                                try clear c38
                                try clear c51
                                try clear c51b0
                                try clear c54
                                try clear c55
                                try clear c55b0
                                try clear c55b1
                                try clear c55b2
                                try clear c57
                                try clear c57b0
                                try clear c58
                                try clear c58b0
                                try clear c59
                                try clear p59
                                try clear q59
                                try clear hx59
                                try clear hf59
                                try clear c61
                                try clear hx61
                                try clear hf61
                                try clear p64
                                try clear c66
                                try clear c66b0
                                try clear c67
                                try clear c67b0
                                try clear c68
                                try clear c69
                                try clear c69b0
                                try clear c70
                                try clear c70b0
                                try clear c71
                                try clear c71b0
                                try clear c72
                                try clear c72b0
                                try clear c75
                                try clear c75b0
                                try clear c75b1
                                try clear hcz36_0
                                try clear hcz36_1
                                try clear hcz48_0
                                try clear hcz48_1
                                try clear hfz36_0
                                try clear hfz36_1
                                try clear hfz48_0
                                try clear hfz48_1
                                try clear hx304_0
                                try clear hx311_0
                                try clear hx315_0
                                try clear hx324_0
                                try clear hx324_1
                                try clear hx325_0
                                try clear hx325_1
                                try clear hx59_0
                                try clear hx59_1
                                try clear hx61_0
                                try clear p2
                                try clear p3
                                try clear p30
                                try clear p304
                                try clear p31
                                try clear p311
                                try clear p315
                                try clear p324
                                try clear p325
                                try clear p5
                                try clear p59
                                try clear p6
                                try clear p64
                                try clear q3
                                try clear q30
                                try clear q304
                                try clear q31
                                try clear q311
                                try clear q315
                                try clear q324
                                try clear q325
                                try clear q5
                                try clear q59
                                obtain ⟨x13_6, rfl, HA, HK6, HO_6, HB⟩ := hrel
                                cases gk with
                                | zero => exact absurd HA.out (by simp [marshallinglaw03_StreamAll.l3])
                                | succ k6 =>
                                  have H := HA.out
                                  clear HA
                                  simp only [marshallinglaw03_StreamAll.l3] at H
                                  by_cases c76 : x13_6 < (x6_52.length : Int)
                                  · rw [if_pos c76] at H
                                    have c76b0 : decide (x13_6 < (x6_52.length : Int)) = true := decide_eq_true c76
                                    clear c76
                                    by_cases c77 : t323 = 0
                                    · rw [if_pos c77] at H
                                      have c77b0 : (t323 == 0) = true := beq_iff_eq.mpr c77
                                      have c77b1 : (t323 != 0) = false := bne_eq_false_iff_eq.mpr c77
                                      clear c77
                                      by_cases c78 : 0 ≤ x13_6
                                      · rw [if_pos c78] at H
                                        have c78b0 : decide (0 ≤ x13_6) = true := decide_eq_true c78
                                        clear c78
                                        replace H := Option.bind_eq_some_iff.mp H
                                        obtain ⟨t327, A790, H⟩ := H
                                        replace H : (if t327 = 0 then ((stream_Find.f x6_52 ((rd_T28 x6_52 x13_6).f0)).bind fun t329 => (if t329 = x13_6 then (marshallinglaw03_StreamAll.l3 k6 a1 true x6_52 t323 x10_5 (wrap64 (x13_6 + 1))) else (some false))) else (some false)) = some r := H
                                        have A79 := Aside0.mk A790
                                        clear A790
                                        by_cases c80 : t327 = 0
                                        · rw [if_pos c80] at H
                                          have c80b0 : (t327 == 0) = true := beq_iff_eq.mpr c80
                                          have c80b1 : (t327 != 0) = false := bne_eq_false_iff_eq.mpr c80
                                          clear c80
                                          replace H := Option.bind_eq_some_iff.mp H
                                          obtain ⟨t329, A810, H⟩ := H
                                          replace H : (if t329 = x13_6 then (marshallinglaw03_StreamAll.l3 k6 a1 true x6_52 t323 x10_5 (wrap64 (x13_6 + 1))) else (some false)) = some r := H
                                          have A81 := Aside0.mk A810
                                          clear A810
                                          by_cases c82 : t329 = x13_6
                                          · rw [if_pos c82] at H
                                            have c82b0 : (t329 == x13_6) = true := beq_iff_eq.mpr c82
                                            have c82b1 : (t329 != x13_6) = false := bne_eq_false_iff_eq.mpr c82
                                            clear c82
                                            have H' := Aside0.mk H
                                            clear H
                                            have p326 : 0 ≤ (x13_6 : Int) := of_decide_eq_true (by first | (with_reducible assumption) | assumption)
                                            have q326 : x13_6 < (x6_52.length : Int) := of_decide_eq_true (by first | (with_reducible assumption) | assumption)
                                            obtain ⟨ad326, A326_1, c326_1, e326, hx326_0, hx326_1, hl326_1, hi326_1⟩ := at_T28 (Kd.S_reads' HO_6.out).2.2 x13_6 p326 q326
                                            cases e326
                                            obtain ⟨ce326, hce326, hMe326, hcc326⟩ := Kd.S_get HO_6.out z28 x13_6 p326 (by first | exact q326 | exact of_decide_eq_true (by first | (with_reducible assumption) | assumption) | (have e_ := (Kd.S_reads' HO_6.out).1; omega))
                                            obtain ⟨ve326_1, rfl, ge326_1⟩ := k28_openM hMe326
                                            have hv326_1 := hcc326 1 _ rfl
                                            rw [add_field _ _ 1 (by omega)] at hv326_1
                                            replace hv326_1 := Option.some.inj (hv326_1.symm.trans hx326_1)
                                            rw [hv326_1] at ge326_1
                                            have HL326_1 := Aside0.mk (show Kd.R k60 60 _ _ _ _ ((rd_T28 x6_52 x13_6).f1) from ge326_1)
                                            clear hv326_1 ge326_1
                                            clear hcc326 hce326
                                            have HR326_1 := Aside0.mk hi326_1
                                            have HC326_1 := Aside0.mk hl326_1
                                            clear hi326_1 hl326_1
                                            replace p326 := eq_true p326
                                            replace q326 := eq_true q326
                                            go_wp2_with (first | (go_at_call 22; (with_reducible refine (stream_Right.calls k6 ((rd_T28 x6_52 x13_6).f0) _ _ ((rd_T28 x6_52 x13_6).f1) t327 _ ?side1 ?side2 ?side3 A79.out).mono ?_); (case side1 => repeat (first | exact (by repeat (first | (with_reducible exact HR326_1.out) | (with_reducible refine Kd.C_alloc ?_ _) | (with_reducible refine Kd.C_drewN ?_ _) | (with_reducible refine Kd.C_drew ?_) | exact HR326_1.out)) | (with_reducible refine Kd.C_alloc ?_ _) | (with_reducible refine Kd.C_drewN ?_ _) | (with_reducible refine Kd.C_drew ?_))); (case side2 => exact HC326_1.out); (case side3 => exact Glob.below HG.out (by repeat (first | (with_reducible first | exact HB.out | apply below_alloc | apply pw_below_drewN | apply below_drew1) | exact HB.out))); rintro e w83 ⟨rfl, hb⟩; have n0_ := Aside0.mk (Kd.S_below (by (with_reducible repeat (first | apply Kd.S_alloc | apply Kd.S_drewN | apply Kd.S_drew)); exact HO_6.out) hb); have n1_ := Aside0.mk (Kd.R_below (by (with_reducible repeat (first | apply Kd.R_alloc | apply Kd.R_drewN | apply Kd.R_drew)); exact HL326_1.out) hb); have n2_ := Aside0.mk (Kd.C_below (by repeat (first | (with_reducible exact HR326_1.out) | (with_reducible refine Kd.C_alloc ?_ _) | (with_reducible refine Kd.C_drewN ?_ _) | (with_reducible refine Kd.C_drew ?_) | exact HR326_1.out)) hb); have n3_ := Aside0.mk (below_step (by repeat (first | (with_reducible first | exact HB.out | apply below_alloc | apply pw_below_drewN | apply below_drew1) | exact HB.out)) hb); clear HO_6; clear HL326_1; clear HR326_1; clear HB; have HO_6 := n0_; have HL326_1 := n1_; have HR326_1 := n2_; have HB := n3_; clear n0_ n1_ n2_ n3_; (try clear hb); (try clear hb2); (try clear hk); (try clear hi); have p328 : 0 ≤ (x13_6 : Int) := of_decide_eq_true (by first | (with_reducible assumption) | assumption); have q328 : x13_6 < (x6_52.length : Int) := of_decide_eq_true (by first | (with_reducible assumption) | assumption); obtain ⟨ad328, A328_1, c328_1, e328, hx328_0, hx328_1, hl328_1, hi328_1⟩ := at_T28 (Kd.S_reads' HO_6.out).2.2 x13_6 p328 q328; obtain rfl : ad326 = ad328 := (by injection e328); obtain ⟨ce328, hce328, hMe328, hcc328⟩ := Kd.S_get HO_6.out z28 x13_6 p328 (by first | exact q328 | exact of_decide_eq_true (by first | (with_reducible assumption) | assumption) | (have e_ := (Kd.S_reads' HO_6.out).1; omega)); obtain ⟨ve328_1, rfl, ge328_1⟩ := k28_openM hMe328; have hv328_1 := hcc328 1 _ rfl; rw [add_field _ _ 1 (by omega)] at hv328_1; replace hv328_1 := Option.some.inj (hv328_1.symm.trans hx328_1); rw [hv328_1] at ge328_1; have HL328_1 := Aside0.mk (show Kd.R k60 60 _ _ _ _ ((rd_T28 x6_52 x13_6).f1) from ge328_1); clear hv328_1 ge328_1; clear hcc328 hce328; have HR328_1 := Aside0.mk hi328_1; have HC328_1 := Aside0.mk hl328_1; clear hi328_1 hl328_1; replace p328 := eq_true p328; replace q328 := eq_true q328) | (go_at_call 20; (with_reducible refine (stream_Find.calls _ _ x6_52 ((rd_T28 x6_52 x13_6).f0) t329 _ ?side1 ?side2 A81.out).mono ?_); (case side1 => repeat (first | exact (Kd.S_reads' HO_6.out).2.2 | (with_reducible refine Kd.C_alloc ?_ _) | (with_reducible refine Kd.C_drewN ?_ _) | (with_reducible refine Kd.C_drew ?_))); (case side2 => exact (Kd.S_reads' HO_6.out).2.1); rintro e w84 ⟨rfl, hb⟩; have n0_ := Aside0.mk (Kd.S_below (by (with_reducible repeat (first | apply Kd.S_alloc | apply Kd.S_drewN | apply Kd.S_drew)); exact HO_6.out) hb); have n1_ := Aside0.mk (Kd.R_below (by (with_reducible repeat (first | apply Kd.R_alloc | apply Kd.R_drewN | apply Kd.R_drew)); exact HL326_1.out) hb); have n2_ := Aside0.mk (Kd.R_below (by (with_reducible repeat (first | apply Kd.R_alloc | apply Kd.R_drewN | apply Kd.R_drew)); exact HL328_1.out) hb); have n3_ := Aside0.mk (Kd.C_below (by repeat (first | (with_reducible exact HR326_1.out) | (with_reducible refine Kd.C_alloc ?_ _) | (with_reducible refine Kd.C_drewN ?_ _) | (with_reducible refine Kd.C_drew ?_) | exact HR326_1.out)) hb); have n4_ := Aside0.mk (Kd.C_below (by repeat (first | (with_reducible exact HR328_1.out) | (with_reducible refine Kd.C_alloc ?_ _) | (with_reducible refine Kd.C_drewN ?_ _) | (with_reducible refine Kd.C_drew ?_) | exact HR328_1.out)) hb); have n5_ := Aside0.mk (below_step (by repeat (first | (with_reducible first | exact HB.out | apply below_alloc | apply pw_below_drewN | apply below_drew1) | exact HB.out)) hb); clear HO_6; clear HL326_1; clear HL328_1; clear HR326_1; clear HR328_1; clear HB; have HO_6 := n0_; have HL326_1 := n1_; have HL328_1 := n2_; have HR326_1 := n3_; have HR328_1 := n4_; have HB := n5_; clear n0_ n1_ n2_ n3_ n4_ n5_; (try clear hb); (try clear hb2); (try clear hk); (try clear hi)))
                                            go_roundg k6
                                            case measure => have := HK1.out; have := HJ5.out; have := HJ49.out; have := HJ52.out; have := HK5.out; have := HK6.out; omega
                                            case rel => exact ⟨(wrap64 (x13_6 + 1)), (by first | rfl | (simp; done) | (simp [*]; done)), H', ⟨by have := HK1.out; have := HJ5.out; have := HJ49.out; have := HJ52.out; have := HK5.out; have := HK6.out; omega⟩, ⟨by (with_reducible repeat (first | apply Kd.S_alloc | apply Kd.S_drewN | apply Kd.S_drew)); exact HO_6.out⟩, ⟨by repeat (first | (with_reducible first | exact HB.out | apply below_alloc | apply pw_below_drewN | apply below_drew1) | exact HB.out)⟩⟩
                                          · rw [if_neg c82] at H
                                            have c82b0 : (t329 == x13_6) = false := beq_eq_false_iff_ne.mpr c82
                                            have c82b1 : (t329 != x13_6) = true := bne_iff_ne.mpr c82
                                            obtain rfl := Option.some.inj H
                                            have p326 : 0 ≤ (x13_6 : Int) := of_decide_eq_true (by first | (with_reducible assumption) | assumption)
                                            have q326 : x13_6 < (x6_52.length : Int) := of_decide_eq_true (by first | (with_reducible assumption) | assumption)
                                            obtain ⟨ad326, A326_1, c326_1, e326, hx326_0, hx326_1, hl326_1, hi326_1⟩ := at_T28 (Kd.S_reads' HO_6.out).2.2 x13_6 p326 q326
                                            cases e326
                                            obtain ⟨ce326, hce326, hMe326, hcc326⟩ := Kd.S_get HO_6.out z28 x13_6 p326 (by first | exact q326 | exact of_decide_eq_true (by first | (with_reducible assumption) | assumption) | (have e_ := (Kd.S_reads' HO_6.out).1; omega))
                                            obtain ⟨ve326_1, rfl, ge326_1⟩ := k28_openM hMe326
                                            have hv326_1 := hcc326 1 _ rfl
                                            rw [add_field _ _ 1 (by omega)] at hv326_1
                                            replace hv326_1 := Option.some.inj (hv326_1.symm.trans hx326_1)
                                            rw [hv326_1] at ge326_1
                                            have HL326_1 := Aside0.mk (show Kd.R k60 60 _ _ _ _ ((rd_T28 x6_52 x13_6).f1) from ge326_1)
                                            clear hv326_1 ge326_1
                                            clear hcc326 hce326
                                            have HR326_1 := Aside0.mk hi326_1
                                            have HC326_1 := Aside0.mk hl326_1
                                            clear hi326_1 hl326_1
                                            replace p326 := eq_true p326
                                            replace q326 := eq_true q326
                                            go_wp2_with (first | (go_at_call 22; (with_reducible refine (stream_Right.calls k6 ((rd_T28 x6_52 x13_6).f0) _ _ ((rd_T28 x6_52 x13_6).f1) t327 _ ?side1 ?side2 ?side3 A79.out).mono ?_); (case side1 => repeat (first | exact (by repeat (first | (with_reducible exact HR326_1.out) | (with_reducible refine Kd.C_alloc ?_ _) | (with_reducible refine Kd.C_drewN ?_ _) | (with_reducible refine Kd.C_drew ?_) | exact HR326_1.out)) | (with_reducible refine Kd.C_alloc ?_ _) | (with_reducible refine Kd.C_drewN ?_ _) | (with_reducible refine Kd.C_drew ?_))); (case side2 => exact HC326_1.out); (case side3 => exact Glob.below HG.out (by repeat (first | (with_reducible first | exact HB.out | apply below_alloc | apply pw_below_drewN | apply below_drew1) | exact HB.out))); rintro e w85 ⟨rfl, hb⟩; have n0_ := Aside0.mk (Kd.S_below (by (with_reducible repeat (first | apply Kd.S_alloc | apply Kd.S_drewN | apply Kd.S_drew)); exact HO_6.out) hb); have n1_ := Aside0.mk (Kd.R_below (by (with_reducible repeat (first | apply Kd.R_alloc | apply Kd.R_drewN | apply Kd.R_drew)); exact HL326_1.out) hb); have n2_ := Aside0.mk (Kd.C_below (by repeat (first | (with_reducible exact HR326_1.out) | (with_reducible refine Kd.C_alloc ?_ _) | (with_reducible refine Kd.C_drewN ?_ _) | (with_reducible refine Kd.C_drew ?_) | exact HR326_1.out)) hb); have n3_ := Aside0.mk (below_step (by repeat (first | (with_reducible first | exact HB.out | apply below_alloc | apply pw_below_drewN | apply below_drew1) | exact HB.out)) hb); clear HO_6; clear HL326_1; clear HR326_1; clear HB; have HO_6 := n0_; have HL326_1 := n1_; have HR326_1 := n2_; have HB := n3_; clear n0_ n1_ n2_ n3_; (try clear hb); (try clear hb2); (try clear hk); (try clear hi); have p328 : 0 ≤ (x13_6 : Int) := of_decide_eq_true (by first | (with_reducible assumption) | assumption); have q328 : x13_6 < (x6_52.length : Int) := of_decide_eq_true (by first | (with_reducible assumption) | assumption); obtain ⟨ad328, A328_1, c328_1, e328, hx328_0, hx328_1, hl328_1, hi328_1⟩ := at_T28 (Kd.S_reads' HO_6.out).2.2 x13_6 p328 q328; obtain rfl : ad326 = ad328 := (by injection e328); obtain ⟨ce328, hce328, hMe328, hcc328⟩ := Kd.S_get HO_6.out z28 x13_6 p328 (by first | exact q328 | exact of_decide_eq_true (by first | (with_reducible assumption) | assumption) | (have e_ := (Kd.S_reads' HO_6.out).1; omega)); obtain ⟨ve328_1, rfl, ge328_1⟩ := k28_openM hMe328; have hv328_1 := hcc328 1 _ rfl; rw [add_field _ _ 1 (by omega)] at hv328_1; replace hv328_1 := Option.some.inj (hv328_1.symm.trans hx328_1); rw [hv328_1] at ge328_1; have HL328_1 := Aside0.mk (show Kd.R k60 60 _ _ _ _ ((rd_T28 x6_52 x13_6).f1) from ge328_1); clear hv328_1 ge328_1; clear hcc328 hce328; have HR328_1 := Aside0.mk hi328_1; have HC328_1 := Aside0.mk hl328_1; clear hi328_1 hl328_1; replace p328 := eq_true p328; replace q328 := eq_true q328) | (go_at_call 20; (with_reducible refine (stream_Find.calls _ _ x6_52 ((rd_T28 x6_52 x13_6).f0) t329 _ ?side1 ?side2 A81.out).mono ?_); (case side1 => repeat (first | exact (Kd.S_reads' HO_6.out).2.2 | (with_reducible refine Kd.C_alloc ?_ _) | (with_reducible refine Kd.C_drewN ?_ _) | (with_reducible refine Kd.C_drew ?_))); (case side2 => exact (Kd.S_reads' HO_6.out).2.1); rintro e w86 ⟨rfl, hb⟩; have n0_ := Aside0.mk (Kd.S_below (by (with_reducible repeat (first | apply Kd.S_alloc | apply Kd.S_drewN | apply Kd.S_drew)); exact HO_6.out) hb); have n1_ := Aside0.mk (Kd.R_below (by (with_reducible repeat (first | apply Kd.R_alloc | apply Kd.R_drewN | apply Kd.R_drew)); exact HL326_1.out) hb); have n2_ := Aside0.mk (Kd.R_below (by (with_reducible repeat (first | apply Kd.R_alloc | apply Kd.R_drewN | apply Kd.R_drew)); exact HL328_1.out) hb); have n3_ := Aside0.mk (Kd.C_below (by repeat (first | (with_reducible exact HR326_1.out) | (with_reducible refine Kd.C_alloc ?_ _) | (with_reducible refine Kd.C_drewN ?_ _) | (with_reducible refine Kd.C_drew ?_) | exact HR326_1.out)) hb); have n4_ := Aside0.mk (Kd.C_below (by repeat (first | (with_reducible exact HR328_1.out) | (with_reducible refine Kd.C_alloc ?_ _) | (with_reducible refine Kd.C_drewN ?_ _) | (with_reducible refine Kd.C_drew ?_) | exact HR328_1.out)) hb); have n5_ := Aside0.mk (below_step (by repeat (first | (with_reducible first | exact HB.out | apply below_alloc | apply pw_below_drewN | apply below_drew1) | exact HB.out)) hb); clear HO_6; clear HL326_1; clear HL328_1; clear HR326_1; clear HR328_1; clear HB; have HO_6 := n0_; have HL326_1 := n1_; have HL328_1 := n2_; have HR326_1 := n3_; have HR328_1 := n4_; have HB := n5_; clear n0_ n1_ n2_ n3_ n4_ n5_; (try clear hb); (try clear hb2); (try clear hk); (try clear hi)))
                                            go_ret
                                            exact ⟨by first | rfl | (simp [errW_none, errW_some] <;> rfl) | (simp [*, errW_none, errW_some] <;> rfl), by repeat (first | (with_reducible first | exact HB.out | apply below_alloc | apply pw_below_drewN | apply below_drew1) | exact HB.out)⟩
                                        · rw [if_neg c80] at H
                                          have c80b0 : (t327 == 0) = false := beq_eq_false_iff_ne.mpr c80
                                          have c80b1 : (t327 != 0) = true := bne_iff_ne.mpr c80
                                          obtain rfl := Option.some.inj H
                                          have p326 : 0 ≤ (x13_6 : Int) := of_decide_eq_true (by first | (with_reducible assumption) | assumption)
                                          have q326 : x13_6 < (x6_52.length : Int) := of_decide_eq_true (by first | (with_reducible assumption) | assumption)
                                          obtain ⟨ad326, A326_1, c326_1, e326, hx326_0, hx326_1, hl326_1, hi326_1⟩ := at_T28 (Kd.S_reads' HO_6.out).2.2 x13_6 p326 q326
                                          cases e326
                                          obtain ⟨ce326, hce326, hMe326, hcc326⟩ := Kd.S_get HO_6.out z28 x13_6 p326 (by first | exact q326 | exact of_decide_eq_true (by first | (with_reducible assumption) | assumption) | (have e_ := (Kd.S_reads' HO_6.out).1; omega))
                                          obtain ⟨ve326_1, rfl, ge326_1⟩ := k28_openM hMe326
                                          have hv326_1 := hcc326 1 _ rfl
                                          rw [add_field _ _ 1 (by omega)] at hv326_1
                                          replace hv326_1 := Option.some.inj (hv326_1.symm.trans hx326_1)
                                          rw [hv326_1] at ge326_1
                                          have HL326_1 := Aside0.mk (show Kd.R k60 60 _ _ _ _ ((rd_T28 x6_52 x13_6).f1) from ge326_1)
                                          clear hv326_1 ge326_1
                                          clear hcc326 hce326
                                          have HR326_1 := Aside0.mk hi326_1
                                          have HC326_1 := Aside0.mk hl326_1
                                          clear hi326_1 hl326_1
                                          replace p326 := eq_true p326
                                          replace q326 := eq_true q326
                                          go_wp2_with (first | (go_at_call 22; (with_reducible refine (stream_Right.calls k6 ((rd_T28 x6_52 x13_6).f0) _ _ ((rd_T28 x6_52 x13_6).f1) t327 _ ?side1 ?side2 ?side3 A79.out).mono ?_); (case side1 => repeat (first | exact (by repeat (first | (with_reducible exact HR326_1.out) | (with_reducible refine Kd.C_alloc ?_ _) | (with_reducible refine Kd.C_drewN ?_ _) | (with_reducible refine Kd.C_drew ?_) | exact HR326_1.out)) | (with_reducible refine Kd.C_alloc ?_ _) | (with_reducible refine Kd.C_drewN ?_ _) | (with_reducible refine Kd.C_drew ?_))); (case side2 => exact HC326_1.out); (case side3 => exact Glob.below HG.out (by repeat (first | (with_reducible first | exact HB.out | apply below_alloc | apply pw_below_drewN | apply below_drew1) | exact HB.out))); rintro e w87 ⟨rfl, hb⟩; have n0_ := Aside0.mk (Kd.S_below (by (with_reducible repeat (first | apply Kd.S_alloc | apply Kd.S_drewN | apply Kd.S_drew)); exact HO_6.out) hb); have n1_ := Aside0.mk (Kd.R_below (by (with_reducible repeat (first | apply Kd.R_alloc | apply Kd.R_drewN | apply Kd.R_drew)); exact HL326_1.out) hb); have n2_ := Aside0.mk (Kd.C_below (by repeat (first | (with_reducible exact HR326_1.out) | (with_reducible refine Kd.C_alloc ?_ _) | (with_reducible refine Kd.C_drewN ?_ _) | (with_reducible refine Kd.C_drew ?_) | exact HR326_1.out)) hb); have n3_ := Aside0.mk (below_step (by repeat (first | (with_reducible first | exact HB.out | apply below_alloc | apply pw_below_drewN | apply below_drew1) | exact HB.out)) hb); clear HO_6; clear HL326_1; clear HR326_1; clear HB; have HO_6 := n0_; have HL326_1 := n1_; have HR326_1 := n2_; have HB := n3_; clear n0_ n1_ n2_ n3_; (try clear hb); (try clear hb2); (try clear hk); (try clear hi)))
                                          go_ret
                                          exact ⟨by first | rfl | (simp [errW_none, errW_some] <;> rfl) | (simp [*, errW_none, errW_some] <;> rfl), by repeat (first | (with_reducible first | exact HB.out | apply below_alloc | apply pw_below_drewN | apply below_drew1) | exact HB.out)⟩
                                      · rw [if_neg c78] at H
                                        exact absurd H (by simp)
                                    · rw [if_neg c77] at H
                                      have c77b0 : (t323 == 0) = false := beq_eq_false_iff_ne.mpr c77
                                      have c77b1 : (t323 != 0) = true := bne_iff_ne.mpr c77
                                      have H' := Aside0.mk H
                                      clear H
                                      go_wp2
                                      go_roundg k6
                                      case measure => have := HK1.out; have := HJ5.out; have := HJ49.out; have := HJ52.out; have := HK5.out; have := HK6.out; omega
                                      case rel => exact ⟨(wrap64 (x13_6 + 1)), (by first | rfl | (simp; done) | (simp [*]; done)), H', ⟨by have := HK1.out; have := HJ5.out; have := HJ49.out; have := HJ52.out; have := HK5.out; have := HK6.out; omega⟩, ⟨by (with_reducible repeat (first | apply Kd.S_alloc | apply Kd.S_drewN | apply Kd.S_drew)); exact HO_6.out⟩, ⟨by repeat (first | (with_reducible first | exact HB.out | apply below_alloc | apply pw_below_drewN | apply below_drew1) | exact HB.out)⟩⟩
                                  · rw [if_neg c76] at H
                                    have c76b0 : decide (x13_6 < (x6_52.length : Int)) = false := decide_eq_false c76
                                    clear c76
                                    by_cases c88 : a1 > 250
                                    · rw [if_pos c88] at H
                                      have c88b0 : decide (250 < a1) = true := decide_eq_true c88
                                      clear c88
                                      have H1 : (if x10_5 = true then (some ((t323 == 0) == (!(decide ((x6_52.length : Int) > 0))))) else (some ((t323 == 0) == false))) = some r := by first | (rw [if_pos rfl] at H; exact H) | (rw [if_pos trivial] at H; exact H) | exact H | simpa using H
                                      clear H
                                      have H := H1
                                      clear H1
                                      by_cases c89 : x10_5 = true
                                      · subst c89
                                        have H1 : (some ((t323 == 0) == (!(decide ((x6_52.length : Int) > 0))))) = some r := by rw [if_pos rfl] at H; exact H
                                        clear H
                                        have H := H1
                                        clear H1
                                        obtain rfl := Option.some.inj H
                                        go_wp2
                                        go_ret
                                        exact ⟨by first | rfl | (simp [errW_none, errW_some] <;> rfl) | (simp [*, errW_none, errW_some] <;> rfl), by repeat (first | (with_reducible first | exact HB.out | apply below_alloc | apply pw_below_drewN | apply below_drew1) | exact HB.out)⟩
                                      · replace c89 := Bool.eq_false_iff.mpr c89
                                        subst c89
                                        have H1 : (some ((t323 == 0) == false)) = some r := by rw [if_neg (show ¬ (false = true) by decide)] at H; exact H
                                        clear H
                                        have H := H1
                                        clear H1
                                        obtain rfl := Option.some.inj H
                                        go_wp2
                                        go_ret
                                        exact ⟨by first | rfl | (simp [errW_none, errW_some] <;> rfl) | (simp [*, errW_none, errW_some] <;> rfl), by repeat (first | (with_reducible first | exact HB.out | apply below_alloc | apply pw_below_drewN | apply below_drew1) | exact HB.out)⟩
                                    · rw [if_neg c88] at H
                                      have c88b0 : decide (250 < a1) = false := decide_eq_false c88
                                      clear c88
                                      have H1 : (if x10_5 = true then (some ((t323 == 0) == (!false))) else (some ((t323 == 0) == false))) = some r := by first | (rw [if_pos rfl] at H; exact H) | (rw [if_pos trivial] at H; exact H) | exact H | simpa using H
                                      clear H
                                      have H := H1
                                      clear H1
                                      by_cases c90 : x10_5 = true
                                      · subst c90
                                        have H1 : (some ((t323 == 0) == (!false))) = some r := by rw [if_pos rfl] at H; exact H
                                        clear H
                                        have H := H1
                                        clear H1
                                        obtain rfl := Option.some.inj H
                                        go_wp2
                                        go_ret
                                        exact ⟨by first | rfl | (simp [errW_none, errW_some] <;> rfl) | (simp [*, errW_none, errW_some] <;> rfl), by repeat (first | (with_reducible first | exact HB.out | apply below_alloc | apply pw_below_drewN | apply below_drew1) | exact HB.out)⟩
                                      · replace c90 := Bool.eq_false_iff.mpr c90
                                        subst c90
                                        have H1 : (some ((t323 == 0) == false)) = some r := by rw [if_neg (show ¬ (false = true) by decide)] at H; exact H
                                        clear H
                                        have H := H1
                                        clear H1
                                        obtain rfl := Option.some.inj H
                                        go_wp2
                                        go_ret
                                        exact ⟨by first | rfl | (simp [errW_none, errW_some] <;> rfl) | (simp [*, errW_none, errW_some] <;> rfl), by repeat (first | (with_reducible first | exact HB.out | apply below_alloc | apply pw_below_drewN | apply below_drew1) | exact HB.out)⟩
  · replace c4 := Bool.eq_false_iff.mpr c4
    subst c4
    have H1 : (some false) = some r := by rw [if_neg (show ¬ (false = true) by decide)] at H; exact H
    clear H
    have H := H1
    clear H1
    obtain rfl := Option.some.inj H
    go_enter Tryd.func8, Tryd.ntmps8
    go_wp2_with (first | ((with_reducible refine gate_callee (f := 9) rfl ?_); refine goesL_ (some 15) rfl rfl Tryd.func9 (by kernel_rfl) rfl #[] rfl (by (try simp only [List.map_toArray, List.map_cons, List.map_nil]); first | done | rfl | (simp only [List.length_drop, List.length_take]; rfl)) ?_; (with_reducible refine (marshallinglaw03_examples.calls  false _ ?side1 A3.out).mono ?_); (case side1 => exact Glob.below HG.out (by repeat (first | (with_reducible first | exact HB.out | apply below_alloc | apply pw_below_drewN | apply below_drew1) | exact HB.out))); rintro e w91 ⟨rfl, hb⟩; refine ⟨_, rfl, ?_⟩; have n0_ := Aside0.mk (below_step (by repeat (first | (with_reducible first | exact HB.out | apply below_alloc | apply pw_below_drewN | apply below_drew1) | exact HB.out)) hb); clear HB; have HB := n0_; clear n0_; (try clear hb); (try clear hb2); (try clear hk); (try clear hi)))
    go_ret
    exact ⟨by first | rfl | (simp [errW_none, errW_some] <;> rfl) | (simp [*, errW_none, errW_some] <;> rfl), by repeat (first | (with_reducible first | exact HB.out | apply below_alloc | apply pw_below_drewN | apply below_drew1) | exact HB.out)⟩

end Go.Proofs.YtcfdnicnjhilkaaDoor.F
