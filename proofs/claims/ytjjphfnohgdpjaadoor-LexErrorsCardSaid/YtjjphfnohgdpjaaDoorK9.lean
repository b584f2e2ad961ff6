-- Written by this session's program mprint.py over the kit's printer (with hand-written contracts laid in). Not trusted: Lean checks it.
import Derived.Test.YtjjphfnohgdpjaaDoorK0
import Derived.Test.YtjjphfnohgdpjaaDoorK5
import Derived.Test.YtjjphfnohgdpjaaDoorK7
import Derived.Test.YtjjphfnohgdpjaaDoorK8
namespace Go.Proofs.YtjjphfnohgdpjaaDoor.K
open Go.RowKit Go.Proofs.YtjjphfnohgdpjaaDoorW.PrintWords Go.Proofs.YtjjphfnohgdpjaaDoorW.PrintLast Go.Proofs.YtjjphfnohgdpjaaDoorW.PrintMore
attribute [local go_sem] max2_int min2_int max_two min_two max_three min_three max_four min_four   -- for this text's walks alone
set_option linter.unusedVariables false
set_option linter.unusedSimpArgs false

/-! ### marshallinglaw06_LexErrors: function 8 -/
mutual
def marshallinglaw06_LexErrors.j0 : Nat → ByteArray → Int → Bool → ByteArray → Int → Int → Bool → Option (Bool)
  | 0, _, _, _, _, _, _, _ => none
  | k + 1, x2, x3, x9, x10, x13, x14, x55 => if x55 = true then (marshallinglaw06_LexErrors.j1 k (⟨#[]⟩ : ByteArray) x3 x9 x10 x13 x14) else (marshallinglaw06_LexErrors.j1 k x2 x3 x9 x10 x13 x14)
def marshallinglaw06_LexErrors.j1 : Nat → ByteArray → Int → Bool → ByteArray → Int → Int → Option (Bool)
  | 0, _, _, _, _, _, _ => none
  | k + 1, x2, x3, x9, x10, x13, x14 => (some (([x14] : List Int) : List Int)).bind fun y208 => (if x10.size + (strOfNums y208).size ≤ 9223372036854775807 then (if (x10 ++ (strOfNums y208)).size + x2.size ≤ 9223372036854775807 then ((lex_All.f k ((x10 ++ (strOfNums y208)) ++ x2)).bind fun bt211 => (marshallinglaw06_LexErrors.l0 k x3 x9 x10 x13 ((x10 ++ (strOfNums y208)) ++ x2) bt211.1 bt211.2.1 bt211.2.2 (⟨#[]⟩ : ByteArray) 0)) else (none)) else (none))
def marshallinglaw06_LexErrors.l0 : Nat → Int → Bool → ByteArray → Int → ByteArray → List (S40) → Int → Int → ByteArray → Int → Option (Bool)
  | 0, _, _, _, _, _, _, _, _, _, _ => none
  | k + 1, x3, x9, x10, x13, x15, x16, x17, x18, x19, x20 => if x20 < 128 then (if x19.size + 16 ≤ 9223372036854775807 then (marshallinglaw06_LexErrors.l0 k x3 x9 x10 x13 x15 x16 x17 x18 (x19 ++ (⟨#[32, 32, 32, 32, 32, 32, 32, 32, 32, 32, 32, 32, 32, 32, 32, 32]⟩ : ByteArray)) (wrap64 (x20 + 1))) else (none)) else ((lex_All.f k x19).bind fun bt216 => (if bt216.2.2 = 0 then (marshallinglaw06_LexErrors.j3 k x3 x9 x10 x13 x15 x16 x17 x18 (bt216.2.1 != 2048)) else (marshallinglaw06_LexErrors.j3 k x3 x9 x10 x13 x15 x16 x17 x18 true)))
def marshallinglaw06_LexErrors.j3 : Nat → Int → Bool → ByteArray → Int → ByteArray → List (S40) → Int → Int → Bool → Option (Bool)
  | 0, _, _, _, _, _, _, _, _, _ => none
  | k + 1, x3, x9, x10, x13, x15, x16, x17, x18, x86 => if x86 = true then (some false) else (if 0 ≤ (wrap64 (2049 + (wrap64 (Int.tmod x3 9)))) then (if (wrap64 (2049 + (wrap64 (Int.tmod x3 9))) : Int).toNat ≤ 281474976710656 then ((lex_All.f k (strOfNums (List.replicate (wrap64 (2049 + (wrap64 (Int.tmod x3 9))) : Int).toNat 0))).bind fun bt224 => (if bt224.2.2 = 4 then (marshallinglaw06_LexErrors.j4 k x9 x10 x13 x15 x16 x17 x18 (bt224.2.1 != 2048)) else (marshallinglaw06_LexErrors.j4 k x9 x10 x13 x15 x16 x17 x18 true))) else (none)) else (none))
def marshallinglaw06_LexErrors.j4 : Nat → Bool → ByteArray → Int → ByteArray → List (S40) → Int → Int → Bool → Option (Bool)
  | 0, _, _, _, _, _, _, _, _ => none
  | k + 1, x9, x10, x13, x15, x16, x17, x18, x104 => if x104 = true then (some false) else (if x13 = 0 then (if (x15.size : Int) > 2048 then (some x9) else (if x9 = true then (if x18 = 2 then (if x17 = (x10.size : Int) then (some ((x16.length : Int) == 0)) else (some false)) else (some false)) else (some false))) else (some x9))
end
def marshallinglaw06_LexErrors.f (k : Nat) (l0 : List Int) (a1 : Int) (a2 : ByteArray) (a3 : Int) : Option (Bool) := (marshallinglaw06_examples.f k).bind fun t197 => (if t197 = true then ((marshallinglaw06_words.f k l0 false).bind fun t198 => ((lex_All.f k t198).bind fun bt199 => ((some (([64, 34, 36, 38, 0, 127, 128, 255, 123, 125, 126, 94, 92, 63] : List Int) : List Int)).bind fun y204 => (if 0 ≤ (Int.tmod a1 14) then (if (Int.tmod a1 14) < (y204.length : Int) then (if (rd y204 (Int.tmod a1 14)) = 38 then (if (a2.size : Int) > 0 then (if 0 < (a2.size : Int) then (marshallinglaw06_LexErrors.j0 k a2 a3 t197 t198 bt199.2.2 (rd y204 (Int.tmod a1 14)) ((bt a2 0) == 38)) else (none)) else (marshallinglaw06_LexErrors.j0 k a2 a3 t197 t198 bt199.2.2 (rd y204 (Int.tmod a1 14)) false)) else (marshallinglaw06_LexErrors.j0 k a2 a3 t197 t198 bt199.2.2 (rd y204 (Int.tmod a1 14)) false)) else (none)) else (none))))) else (some false))
theorem marshallinglaw06_LexErrors.mono_l : ∀ k, (∀ y0 y1 y2 y3 y4 y5 y6, LeO (marshallinglaw06_LexErrors.j0 k y0 y1 y2 y3 y4 y5 y6) (marshallinglaw06_LexErrors.j0 (k + 1) y0 y1 y2 y3 y4 y5 y6)) ∧ (∀ y0 y1 y2 y3 y4 y5, LeO (marshallinglaw06_LexErrors.j1 k y0 y1 y2 y3 y4 y5) (marshallinglaw06_LexErrors.j1 (k + 1) y0 y1 y2 y3 y4 y5)) ∧ (∀ y0 y1 y2 y3 y4 y5 y6 y7 y8 y9, LeO (marshallinglaw06_LexErrors.l0 k y0 y1 y2 y3 y4 y5 y6 y7 y8 y9) (marshallinglaw06_LexErrors.l0 (k + 1) y0 y1 y2 y3 y4 y5 y6 y7 y8 y9)) ∧ (∀ y0 y1 y2 y3 y4 y5 y6 y7 y8, LeO (marshallinglaw06_LexErrors.j3 k y0 y1 y2 y3 y4 y5 y6 y7 y8) (marshallinglaw06_LexErrors.j3 (k + 1) y0 y1 y2 y3 y4 y5 y6 y7 y8)) ∧ (∀ y0 y1 y2 y3 y4 y5 y6 y7, LeO (marshallinglaw06_LexErrors.j4 k y0 y1 y2 y3 y4 y5 y6 y7) (marshallinglaw06_LexErrors.j4 (k + 1) y0 y1 y2 y3 y4 y5 y6 y7))
  | 0 => ⟨fun _ _ _ _ _ _ _ r h => by simp [marshallinglaw06_LexErrors.j0] at h, fun _ _ _ _ _ _ r h => by simp [marshallinglaw06_LexErrors.j1] at h, fun _ _ _ _ _ _ _ _ _ _ r h => by simp [marshallinglaw06_LexErrors.l0] at h, fun _ _ _ _ _ _ _ _ _ r h => by simp [marshallinglaw06_LexErrors.j3] at h, fun _ _ _ _ _ _ _ _ r h => by simp [marshallinglaw06_LexErrors.j4] at h⟩
  | k + 1 => by
    obtain ⟨ih0, ih1, ih2, ih3, ih4⟩ := marshallinglaw06_LexErrors.mono_l k
    refine ⟨?_, ?_, ?_, ?_, ?_⟩
    · intro y0 y1 y2 y3 y4 y5 y6
      unfold marshallinglaw06_LexErrors.j0
      repeat' first
      | (with_reducible exact ih0 _ _ _ _ _ _ _)
      | (with_reducible exact ih1 _ _ _ _ _ _)
      | (with_reducible exact ih2 _ _ _ _ _ _ _ _ _ _)
      | (with_reducible exact ih3 _ _ _ _ _ _ _ _ _)
      | (with_reducible exact ih4 _ _ _ _ _ _ _ _)
      | (with_reducible exact lex_All.mono _ _)
      | (with_reducible exact marshallinglaw06_examples.mono _)
      | (with_reducible exact marshallinglaw06_words.mono _ _ _)
      | (with_reducible exact LeO.refl _)
      | (with_reducible exact LeO.none _)
      | (with_reducible refine LeO.ite ?_ ?_)
      | (with_reducible refine LeO.bind ?_ (fun _ => ?_))
      | exact ih0 _ _ _ _ _ _ _
      | exact ih1 _ _ _ _ _ _
      | exact ih2 _ _ _ _ _ _ _ _ _ _
      | exact ih3 _ _ _ _ _ _ _ _ _
      | exact ih4 _ _ _ _ _ _ _ _
      | exact lex_All.mono _ _
      | exact marshallinglaw06_examples.mono _
      | exact marshallinglaw06_words.mono _ _ _
      | exact LeO.none _
      | refine LeO.ite ?_ ?_
      | refine LeO.bind ?_ (fun _ => ?_)
    · intro y0 y1 y2 y3 y4 y5
      unfold marshallinglaw06_LexErrors.j1
      repeat' first
      | (with_reducible exact ih0 _ _ _ _ _ _ _)
      | (with_reducible exact ih1 _ _ _ _ _ _)
      | (with_reducible exact ih2 _ _ _ _ _ _ _ _ _ _)
      | (with_reducible exact ih3 _ _ _ _ _ _ _ _ _)
      | (with_reducible exact ih4 _ _ _ _ _ _ _ _)
      | (with_reducible exact lex_All.mono _ _)
      | (with_reducible exact marshallinglaw06_examples.mono _)
      | (with_reducible exact marshallinglaw06_words.mono _ _ _)
      | (with_reducible exact LeO.refl _)
      | (with_reducible exact LeO.none _)
      | (with_reducible refine LeO.ite ?_ ?_)
      | (with_reducible refine LeO.bind ?_ (fun _ => ?_))
      | exact ih0 _ _ _ _ _ _ _
      | exact ih1 _ _ _ _ _ _
      | exact ih2 _ _ _ _ _ _ _ _ _ _
      | exact ih3 _ _ _ _ _ _ _ _ _
      | exact ih4 _ _ _ _ _ _ _ _
      | exact lex_All.mono _ _
      | exact marshallinglaw06_examples.mono _
      | exact marshallinglaw06_words.mono _ _ _
      | exact LeO.none _
      | refine LeO.ite ?_ ?_
      | refine LeO.bind ?_ (fun _ => ?_)
    · intro y0 y1 y2 y3 y4 y5 y6 y7 y8 y9
      unfold marshallinglaw06_LexErrors.l0
      repeat' first
      | (with_reducible exact ih0 _ _ _ _ _ _ _)
      | (with_reducible exact ih1 _ _ _ _ _ _)
      | (with_reducible exact ih2 _ _ _ _ _ _ _ _ _ _)
      | (with_reducible exact ih3 _ _ _ _ _ _ _ _ _)
      | (with_reducible exact ih4 _ _ _ _ _ _ _ _)
      | (with_reducible exact lex_All.mono _ _)
      | (with_reducible exact marshallinglaw06_examples.mono _)
      | (with_reducible exact marshallinglaw06_words.mono _ _ _)
      | (with_reducible exact LeO.refl _)
      | (with_reducible exact LeO.none _)
      | (with_reducible refine LeO.ite ?_ ?_)
      | (with_reducible refine LeO.bind ?_ (fun _ => ?_))
      | exact ih0 _ _ _ _ _ _ _
      | exact ih1 _ _ _ _ _ _
      | exact ih2 _ _ _ _ _ _ _ _ _ _
      | exact ih3 _ _ _ _ _ _ _ _ _
      | exact ih4 _ _ _ _ _ _ _ _
      | exact lex_All.mono _ _
      | exact marshallinglaw06_examples.mono _
      | exact marshallinglaw06_words.mono _ _ _
      | exact LeO.none _
      | refine LeO.ite ?_ ?_
      | refine LeO.bind ?_ (fun _ => ?_)
    · intro y0 y1 y2 y3 y4 y5 y6 y7 y8
      unfold marshallinglaw06_LexErrors.j3
      repeat' first
      | (with_reducible exact ih0 _ _ _ _ _ _ _)
      | (with_reducible exact ih1 _ _ _ _ _ _)
      | (with_reducible exact ih2 _ _ _ _ _ _ _ _ _ _)
      | (with_reducible exact ih3 _ _ _ _ _ _ _ _ _)
      | (with_reducible exact ih4 _ _ _ _ _ _ _ _)
      | (with_reducible exact lex_All.mono _ _)
      | (with_reducible exact marshallinglaw06_examples.mono _)
      | (with_reducible exact marshallinglaw06_words.mono _ _ _)
      | (with_reducible exact LeO.refl _)
      | (with_reducible exact LeO.none _)
      | (with_reducible refine LeO.ite ?_ ?_)
      | (with_reducible refine LeO.bind ?_ (fun _ => ?_))
      | exact ih0 _ _ _ _ _ _ _
      | exact ih1 _ _ _ _ _ _
      | exact ih2 _ _ _ _ _ _ _ _ _ _
      | exact ih3 _ _ _ _ _ _ _ _ _
      | exact ih4 _ _ _ _ _ _ _ _
      | exact lex_All.mono _ _
      | exact marshallinglaw06_examples.mono _
      | exact marshallinglaw06_words.mono _ _ _
      | exact LeO.none _
      | refine LeO.ite ?_ ?_
      | refine LeO.bind ?_ (fun _ => ?_)
    · intro y0 y1 y2 y3 y4 y5 y6 y7
      unfold marshallinglaw06_LexErrors.j4
      repeat' first
      | (with_reducible exact ih0 _ _ _ _ _ _ _)
      | (with_reducible exact ih1 _ _ _ _ _ _)
      | (with_reducible exact ih2 _ _ _ _ _ _ _ _ _ _)
      | (with_reducible exact ih3 _ _ _ _ _ _ _ _ _)
      | (with_reducible exact ih4 _ _ _ _ _ _ _ _)
      | (with_reducible exact lex_All.mono _ _)
      | (with_reducible exact marshallinglaw06_examples.mono _)
      | (with_reducible exact marshallinglaw06_words.mono _ _ _)
      | (with_reducible exact LeO.refl _)
      | (with_reducible exact LeO.none _)
      | (with_reducible refine LeO.ite ?_ ?_)
      | (with_reducible refine LeO.bind ?_ (fun _ => ?_))
      | exact ih0 _ _ _ _ _ _ _
      | exact ih1 _ _ _ _ _ _
      | exact ih2 _ _ _ _ _ _ _ _ _ _
      | exact ih3 _ _ _ _ _ _ _ _ _
      | exact ih4 _ _ _ _ _ _ _ _
      | exact lex_All.mono _ _
      | exact marshallinglaw06_examples.mono _
      | exact marshallinglaw06_words.mono _ _ _
      | exact LeO.none _
      | refine LeO.ite ?_ ?_
      | refine LeO.bind ?_ (fun _ => ?_)
theorem marshallinglaw06_LexErrors.mono : ∀ a0 a1 a2 a3 k, LeO (marshallinglaw06_LexErrors.f k a0 a1 a2 a3) (marshallinglaw06_LexErrors.f (k + 1) a0 a1 a2 a3) := by
  intro a0 a1 a2 a3 k
  obtain ⟨ih0, ih1, ih2, ih3, ih4⟩ := marshallinglaw06_LexErrors.mono_l k
  unfold marshallinglaw06_LexErrors.f
  repeat' first
      | (with_reducible exact ih0 _ _ _ _ _ _ _)
      | (with_reducible exact ih1 _ _ _ _ _ _)
      | (with_reducible exact ih2 _ _ _ _ _ _ _ _ _ _)
      | (with_reducible exact ih3 _ _ _ _ _ _ _ _ _)
      | (with_reducible exact ih4 _ _ _ _ _ _ _ _)
      | (with_reducible exact lex_All.mono _ _)
      | (with_reducible exact marshallinglaw06_examples.mono _)
      | (with_reducible exact marshallinglaw06_words.mono _ _ _)
      | (with_reducible exact LeO.refl _)
      | (with_reducible exact LeO.none _)
      | (with_reducible refine LeO.ite ?_ ?_)
      | (with_reducible refine LeO.bind ?_ (fun _ => ?_))
      | exact ih0 _ _ _ _ _ _ _
      | exact ih1 _ _ _ _ _ _
      | exact ih2 _ _ _ _ _ _ _ _ _ _
      | exact ih3 _ _ _ _ _ _ _ _ _
      | exact ih4 _ _ _ _ _ _ _ _
      | exact lex_All.mono _ _
      | exact marshallinglaw06_examples.mono _
      | exact marshallinglaw06_words.mono _ _ _
      | exact LeO.none _
      | refine LeO.ite ?_ ?_
      | refine LeO.bind ?_ (fun _ => ?_)
set_option maxHeartbeats 8000000 in
set_option maxRecDepth 100000 in
theorem marshallinglaw06_LexErrors.calls (k : Nat) (A0 : Option Addr) (c0 : Nat) (l0 : List Int) (a1 : Int) (a2 : ByteArray) (a3 : Int) (r : Bool) (w : World) (hr0 : Kd.C (Kd.int .u8) w A0 l0.length l0) (hc0 : l0.length ≤ c0) (hG : Glob w) (h : marshallinglaw06_LexErrors.f k l0 a1 a2 a3 = some r) :
    Calls Tryd.prog 8 #[.slice A0 l0.length c0, .int .u8 a1, .string a2, .int .u16 a3] w fun e w' => e = .returned (.bool r) ∧ Below w.heap.size w w' := by
  have HG := Aside0.mk hG
  clear hG
  have HR0 := Aside0.mk hr0
  have HC0 := Aside0.mk hc0
  clear hr0 hc0
  have HB := Aside0.mk (Below.refl w.heap.size w)
  have H : ((marshallinglaw06_examples.f k).bind fun t197 => (if t197 = true then ((marshallinglaw06_words.f k l0 false).bind fun t198 => ((lex_All.f k t198).bind fun bt199 => ((some (([64, 34, 36, 38, 0, 127, 128, 255, 123, 125, 126, 94, 92, 63] : List Int) : List Int)).bind fun y204 => (if 0 ≤ (Int.tmod a1 14) then (if (Int.tmod a1 14) < (y204.length : Int) then (if (rd y204 (Int.tmod a1 14)) = 38 then (if (a2.size : Int) > 0 then (if 0 < (a2.size : Int) then (marshallinglaw06_LexErrors.j0 k a2 a3 t197 t198 bt199.2.2 (rd y204 (Int.tmod a1 14)) ((bt a2 0) == 38)) else (none)) else (marshallinglaw06_LexErrors.j0 k a2 a3 t197 t198 bt199.2.2 (rd y204 (Int.tmod a1 14)) false)) else (marshallinglaw06_LexErrors.j0 k a2 a3 t197 t198 bt199.2.2 (rd y204 (Int.tmod a1 14)) false)) else (none)) else (none))))) else (some false))) = some r := h
  clear h
  replace H := Option.bind_eq_some_iff.mp H
  obtain ⟨t197, A50, H⟩ := H
  replace H : (if t197 = true then ((marshallinglaw06_words.f k l0 false).bind fun t198 => ((lex_All.f k t198).bind fun bt199 => ((some (([64, 34, 36, 38, 0, 127, 128, 255, 123, 125, 126, 94, 92, 63] : List Int) : List Int)).bind fun y204 => (if 0 ≤ (Int.tmod a1 14) then (if (Int.tmod a1 14) < (y204.length : Int) then (if (rd y204 (Int.tmod a1 14)) = 38 then (if (a2.size : Int) > 0 then (if 0 < (a2.size : Int) then (marshallinglaw06_LexErrors.j0 k a2 a3 t197 t198 bt199.2.2 (rd y204 (Int.tmod a1 14)) ((bt a2 0) == 38)) else (none)) else (marshallinglaw06_LexErrors.j0 k a2 a3 t197 t198 bt199.2.2 (rd y204 (Int.tmod a1 14)) false)) else (marshallinglaw06_LexErrors.j0 k a2 a3 t197 t198 bt199.2.2 (rd y204 (Int.tmod a1 14)) false)) else (none)) else (none))))) else (some false)) = some r := H
  have A5 := Aside0.mk A50
  clear A50
  by_cases c6 : t197 = true
  · subst c6
    have H1 : ((marshallinglaw06_words.f k l0 false).bind fun t198 => ((lex_All.f k t198).bind fun bt199 => ((some (([64, 34, 36, 38, 0, 127, 128, 255, 123, 125, 126, 94, 92, 63] : List Int) : List Int)).bind fun y204 => (if 0 ≤ (Int.tmod a1 14) then (if (Int.tmod a1 14) < (y204.length : Int) then (if (rd y204 (Int.tmod a1 14)) = 38 then (if (a2.size : Int) > 0 then (if 0 < (a2.size : Int) then (marshallinglaw06_LexErrors.j0 k a2 a3 true t198 bt199.2.2 (rd y204 (Int.tmod a1 14)) ((bt a2 0) == 38)) else (none)) else (marshallinglaw06_LexErrors.j0 k a2 a3 true t198 bt199.2.2 (rd y204 (Int.tmod a1 14)) false)) else (marshallinglaw06_LexErrors.j0 k a2 a3 true t198 bt199.2.2 (rd y204 (Int.tmod a1 14)) false)) else (none)) else (none))))) = some r := by rw [if_pos rfl] at H; exact H
    clear H
    have H := H1
    clear H1
    replace H := Option.bind_eq_some_iff.mp H
    obtain ⟨t198, A70, H⟩ := H
    replace H : ((lex_All.f k t198).bind fun bt199 => ((some (([64, 34, 36, 38, 0, 127, 128, 255, 123, 125, 126, 94, 92, 63] : List Int) : List Int)).bind fun y204 => (if 0 ≤ (Int.tmod a1 14) then (if (Int.tmod a1 14) < (y204.length : Int) then (if (rd y204 (Int.tmod a1 14)) = 38 then (if (a2.size : Int) > 0 then (if 0 < (a2.size : Int) then (marshallinglaw06_LexErrors.j0 k a2 a3 true t198 bt199.2.2 (rd y204 (Int.tmod a1 14)) ((bt a2 0) == 38)) else (none)) else (marshallinglaw06_LexErrors.j0 k a2 a3 true t198 bt199.2.2 (rd y204 (Int.tmod a1 14)) false)) else (marshallinglaw06_LexErrors.j0 k a2 a3 true t198 bt199.2.2 (rd y204 (Int.tmod a1 14)) false)) else (none)) else (none)))) = some r := H
    have A7 := Aside0.mk A70
    clear A70
    replace H := Option.bind_eq_some_iff.mp H
    obtain ⟨⟨t199, t200, t201⟩, A80, H⟩ := H
    replace H : ((some (([64, 34, 36, 38, 0, 127, 128, 255, 123, 125, 126, 94, 92, 63] : List Int) : List Int)).bind fun y204 => (if 0 ≤ (Int.tmod a1 14) then (if (Int.tmod a1 14) < (y204.length : Int) then (if (rd y204 (Int.tmod a1 14)) = 38 then (if (a2.size : Int) > 0 then (if 0 < (a2.size : Int) then (marshallinglaw06_LexErrors.j0 k a2 a3 true t198 t201 (rd y204 (Int.tmod a1 14)) ((bt a2 0) == 38)) else (none)) else (marshallinglaw06_LexErrors.j0 k a2 a3 true t198 t201 (rd y204 (Int.tmod a1 14)) false)) else (marshallinglaw06_LexErrors.j0 k a2 a3 true t198 t201 (rd y204 (Int.tmod a1 14)) false)) else (none)) else (none))) = some r := H
    have A8 := Aside0.mk A80
    clear A80
    obtain ⟨y204, hy204⟩ : ∃ y_ : List Int, y_ = (([64, 34, 36, 38, 0, 127, 128, 255, 123, 125, 126, 94, 92, 63] : List Int)) := ⟨_, rfl⟩
    replace H : (if 0 ≤ (Int.tmod a1 14) then (if (Int.tmod a1 14) < (y204.length : Int) then (if (rd y204 (Int.tmod a1 14)) = 38 then (if (a2.size : Int) > 0 then (if 0 < (a2.size : Int) then (marshallinglaw06_LexErrors.j0 k a2 a3 true t198 t201 (rd y204 (Int.tmod a1 14)) ((bt a2 0) == 38)) else (none)) else (marshallinglaw06_LexErrors.j0 k a2 a3 true t198 t201 (rd y204 (Int.tmod a1 14)) false)) else (marshallinglaw06_LexErrors.j0 k a2 a3 true t198 t201 (rd y204 (Int.tmod a1 14)) false)) else (none)) else (none)) = some r := by first | (rw [hy204]; with_reducible exact H) | (have H2_ := (Option.bind_some _ _).symm.trans H; rw [hy204]; with_reducible exact H2_) | (have H2_ := (Option.bind_some _ _).symm.trans H; with_reducible exact H2_) | with_reducible exact H | (rw [hy204]; exact H) | exact H
    have Ny204 := Aside0.mk hy204
    clear hy204
    obtain ⟨ji9, hji9⟩ : ∃ j_ : Int, (Int.tmod a1 14) = j_ := ⟨_, rfl⟩
    replace H : (if 0 ≤ (ji9) then (if (ji9) < (y204.length : Int) then (if (rd y204 (ji9)) = 38 then (if (a2.size : Int) > 0 then (if 0 < (a2.size : Int) then (marshallinglaw06_LexErrors.j0 k a2 a3 true t198 t201 (rd y204 (ji9)) ((bt a2 0) == 38)) else (none)) else (marshallinglaw06_LexErrors.j0 k a2 a3 true t198 t201 (rd y204 (ji9)) false)) else (marshallinglaw06_LexErrors.j0 k a2 a3 true t198 t201 (rd y204 (ji9)) false)) else (none)) else (none)) = some r := by first | (rw [hji9] at H; exact H) | (simp only [hji9] at H ⊢; exact H)
    (try rw [hji9] at A5)
    (try rw [hji9] at A7)
    (try rw [hji9] at A8)
    by_cases c10 : 0 ≤ (ji9)
    · rw [if_pos c10] at H
      have c10b0 : decide (0 ≤ (ji9)) = true := decide_eq_true c10
      clear c10
      by_cases c11 : (ji9) < (y204.length : Int)
      · rw [if_pos c11] at H
        have c11b0 : decide ((ji9) < (y204.length : Int)) = true := decide_eq_true c11
        clear c11
        have HC12 := Aside0.mk H
        clear H
        go_enter Tryd.func8, Tryd.ntmps8
        go_upto_region 7 with (first | ((with_reducible refine gate_callee (f := 9) rfl ?_); refine goesL_ (some 28) rfl rfl Tryd.func9 (by kernel_rfl) rfl #[] rfl (by (try simp only [List.map_toArray, List.map_cons, List.map_nil]); first | done | rfl | (simp only [List.length_drop, List.length_take]; rfl)) ?_; (with_reducible refine (marshallinglaw06_examples.calls k  true _ ?side1 A5.out).mono ?_); (case side1 => exact Glob.below HG.out (by repeat (first | (with_reducible first | exact HB.out | apply below_alloc | apply pw_below_drewN | apply below_drew1) | exact HB.out))); rintro e w13 ⟨rfl, hb⟩; refine ⟨_, rfl, ?_⟩; have n0_ := Aside0.mk (below_step (by repeat (first | (with_reducible first | exact HB.out | apply below_alloc | apply pw_below_drewN | apply below_drew1) | exact HB.out)) hb); clear HB; have HB := n0_; clear n0_; (try clear hb); (try clear hb2); (try clear hk); (try clear hi)) | ((with_reducible refine gate_callee (f := 10) rfl ?_); refine goesL_ (some 32) rfl rfl Tryd.func10 (by kernel_rfl) rfl #[.slice A0 l0.length c0, .bool false] rfl (by (try simp only [List.map_toArray, List.map_cons, List.map_nil]); first | done | rfl | (simp only [List.length_drop, List.length_take]; rfl)) ?_; (with_reducible refine (marshallinglaw06_words.calls k _ _ l0 false t198 _ ?side1 ?side2 A7.out).mono ?_); (case side1 => repeat (first | exact (Kd.C_below HR0.out HB.out) | (with_reducible refine Kd.C_alloc ?_ _) | (with_reducible refine Kd.C_drewN ?_ _) | (with_reducible refine Kd.C_drew ?_))); (case side2 => exact HC0.out); rintro e w14 ⟨rfl, hb⟩; refine ⟨_, rfl, ?_⟩; have n0_ := Aside0.mk (below_step (by repeat (first | (with_reducible first | exact HB.out | apply below_alloc | apply pw_below_drewN | apply below_drew1) | exact HB.out)) hb); clear HB; have HB := n0_; clear n0_; (try clear hb); (try clear hb2); (try clear hk); (try clear hi)) | ((with_reducible refine gate_callee (f := 11) rfl ?_); refine goesL_ (some 35) rfl rfl Tryd.func11 (by kernel_rfl) rfl #[.string t198] rfl (by (try simp only [List.map_toArray, List.map_cons, List.map_nil]); first | done | rfl | (simp only [List.length_drop, List.length_take]; rfl)) ?_; (with_reducible refine (lex_All.calls k t198 t199 t200 t201 _ ?side1 A8.out).mono ?_); (case side1 => exact Glob.below HG.out (by repeat (first | (with_reducible first | exact HB.out | apply below_alloc | apply pw_below_drewN | apply below_drew1) | exact HB.out))); rintro e w15 ⟨v202, rfl, ho0, hb⟩; refine ⟨_, rfl, ?_⟩; have n0_ := Aside0.mk (Kd.R_lower ho0 (below_size (by repeat (first | (with_reducible first | exact HB.out | apply below_alloc | apply pw_below_drewN | apply below_drew1) | exact HB.out)))); have n1_ := Aside0.mk (below_step (by repeat (first | (with_reducible first | exact HB.out | apply below_alloc | apply pw_below_drewN | apply below_drew1) | exact HB.out)) hb); clear HB; have HO203 := n0_; have HB := n1_; clear n0_ n1_; (try clear hb); (try clear hb2); (try clear hk); (try clear hi); (try clear ho0)) | ((with_reducible refine gate_dst (N := 39) rfl ?_); (try (refine gate_guard (by rfl) ?_; dsimp only)); refine Kd.R_lit (Kd.int .u8) _ 5 ?hg (N := 39) ?hd (xs := ([64, 34, 36, 38, 0, 127, 128, 255, 123, 125, 126, 94, 92, 63] : List Int)) (inner := [.int .u8 64, .int .u8 34, .int .u8 36, .int .u8 38, .int .u8 0, .int .u8 127, .int .u8 128, .int .u8 255, .int .u8 123, .int .u8 125, .int .u8 126, .int .u8 94, .int .u8 92, .int .u8 63]) (ok := fun _ => True) (okp := fun _ => True) ?hr ?hp (fun _ hk => hk) trivial (Below.refl _ _) (Nat.le_refl _) (by simp) ?_; (case hd => rfl); (case hg => rfl); (case hr => first | (go_simp; done) | (go_simp; rfl)); (case hp => exact (Reps.one (show Kd.M (Kd.int .u8) _ _ _ 64 [.int .u8 64] from rfl) (Reps.one (show Kd.M (Kd.int .u8) _ _ _ 34 [.int .u8 34] from rfl) (Reps.one (show Kd.M (Kd.int .u8) _ _ _ 36 [.int .u8 36] from rfl) (Reps.one (show Kd.M (Kd.int .u8) _ _ _ 38 [.int .u8 38] from rfl) (Reps.one (show Kd.M (Kd.int .u8) _ _ _ 0 [.int .u8 0] from rfl) (Reps.one (show Kd.M (Kd.int .u8) _ _ _ 127 [.int .u8 127] from rfl) (Reps.one (show Kd.M (Kd.int .u8) _ _ _ 128 [.int .u8 128] from rfl) (Reps.one (show Kd.M (Kd.int .u8) _ _ _ 255 [.int .u8 255] from rfl) (Reps.one (show Kd.M (Kd.int .u8) _ _ _ 123 [.int .u8 123] from rfl) (Reps.one (show Kd.M (Kd.int .u8) _ _ _ 125 [.int .u8 125] from rfl) (Reps.one (show Kd.M (Kd.int .u8) _ _ _ 126 [.int .u8 126] from rfl) (Reps.one (show Kd.M (Kd.int .u8) _ _ _ 94 [.int .u8 94] from rfl) (Reps.one (show Kd.M (Kd.int .u8) _ _ _ 92 [.int .u8 92] from rfl) (Reps.one (show Kd.M (Kd.int .u8) _ _ _ 63 [.int .u8 63] from rfl) (Reps.none _ _)))))))))))))))); intro v205 w16 ho17 hb hg_ hnew_; clear hg_ hnew_; (first | rw [← Ny204.out] at ho17 | (simp only [Int.reduceToNat] at ho17; rw [← Ny204.out] at ho17)); have n0_ := Aside0.mk (Kd.R_below (by (with_reducible repeat (first | apply Kd.R_alloc | apply Kd.R_drewN | apply Kd.R_drew)); exact HO203.out) hb); have n1_ := Aside0.mk (Kd.R_lower ho17 (below_size (by repeat (first | (with_reducible first | exact HB.out | apply below_alloc | apply pw_below_drewN | apply below_drew1) | exact HB.out)))); have n2_ := Aside0.mk (below_step (by repeat (first | (with_reducible first | exact HB.out | apply below_alloc | apply pw_below_drewN | apply below_drew1) | exact HB.out)) hb); clear HO203; clear HB; have HO203 := n0_; have HO206 := n1_; have HB := n2_; clear n0_ n1_ n2_; clear hb ho17; obtain ⟨Ao18, co18, eo18⟩ := Kd.R_slice HO206.out; subst eo18; have p207 : 0 ≤ ((ji9) : Int) := of_decide_eq_true (by first | (with_reducible assumption) | assumption); have q207 : (ji9) < (y204.length : Int) := of_decide_eq_true (by first | (with_reducible assumption) | assumption); obtain ⟨ad207, e207, hx207_0⟩ := Kd.at_int (Kd.R_reads' HO206.out).2.2 (ji9) p207 q207; cases e207; replace p207 := eq_true p207; replace q207 := eq_true q207))
        (try simp only [Act.put, List.setIfInBounds_toArray, List.set_cons_zero, List.set_cons_succ])
        go_cut [55] (fun v55 wc => ∃ (kq : Nat) (x55_11 : Bool), v55 = .bool x55_11 ∧ Aside0 (marshallinglaw06_LexErrors.j0 kq a2 a3 true t198 t201 (rd y204 (ji9)) x55_11 = some r) ∧ Aside0 (kq ≤ k) ∧ Aside0 (Below w.heap.size w wc))
        case first =>
          have H := HC12.out
          clear HC12
          by_cases c19 : (rd y204 (ji9)) = 38
          · rw [if_pos c19] at H
            have c19b0 : ((rd y204 (ji9)) == 38) = true := beq_iff_eq.mpr c19
            have c19b1 : ((rd y204 (ji9)) != 38) = false := bne_eq_false_iff_eq.mpr c19
            clear c19
            (first | rw [c19b0] | (simp only [i64_w, i32_w]; rw [c19b0]) | skip)
            by_cases c20 : (a2.size : Int) > 0
            · rw [if_pos c20] at H
              have c20b0 : decide (0 < (a2.size : Int)) = true := decide_eq_true c20
              have c20b1 : decide (0 < a2.size) = true := decide_eq_true (by omega)
              clear c20
              by_cases c21 : 0 < (a2.size : Int)
              · rw [if_pos c21] at H
                have c21b0 : decide (0 < (a2.size : Int)) = true := decide_eq_true c21
                have c21b1 : decide (0 < a2.size) = true := decide_eq_true (by omega)
                clear c21
                have H' := Aside0.mk H
                clear H
                have p22 : 0 ≤ (0 : Int) := (by omega)
                have q22 : 0 < a2.size := (by have : (0 : Int) < (a2.size : Int) := of_decide_eq_true (by first | (with_reducible assumption) | assumption); omega)
                have hx22 : ∀ h : 0 < a2.size, ((a2[0]'h).toNat : Int) = bt a2 0 := bt_at a2 0
                clear p22
                have qi22 : (0 < (a2.size : Int)) = True := eq_true (of_decide_eq_true (by first | (with_reducible assumption) | assumption))
                replace q22 := eq_true q22
                go_wp2
                go_meet
                case rel => exact ⟨_, (((bt a2 0) == 38)), (by first | rfl | (simp; done) | (simp [*]; done)), H', ⟨by first | omega | exact Nat.le_refl _⟩, ⟨by repeat (first | (with_reducible first | exact HB.out | apply below_alloc | apply pw_below_drewN | apply below_drew1) | exact HB.out)⟩⟩
              · rw [if_neg c21] at H
                exact absurd H (by simp)
            · rw [if_neg c20] at H
              have c20b0 : decide (0 < (a2.size : Int)) = false := decide_eq_false c20
              have c20b1 : decide (0 < a2.size) = false := decide_eq_false (by omega)
              clear c20
              have H' := Aside0.mk H
              clear H
              go_wp2
              go_meet
              case rel => exact ⟨_, (false), (by first | rfl | (simp; done) | (simp [*]; done)), H', ⟨by first | omega | exact Nat.le_refl _⟩, ⟨by repeat (first | (with_reducible first | exact HB.out | apply below_alloc | apply pw_below_drewN | apply below_drew1) | exact HB.out)⟩⟩
          · rw [if_neg c19] at H
            have c19b0 : ((rd y204 (ji9)) == 38) = false := beq_eq_false_iff_ne.mpr c19
            have c19b1 : ((rd y204 (ji9)) != 38) = true := bne_iff_ne.mpr c19
            (first | rw [c19b0] | (simp only [i64_w, i32_w]; rw [c19b0]) | skip)
            have H' := Aside0.mk H
            clear H
            go_wp2
            go_meet
            case rel => exact ⟨_, (false), (by first | rfl | (simp; done) | (simp [*]; done)), H', ⟨by first | omega | exact Nat.le_refl _⟩, ⟨by repeat (first | (with_reducible first | exact HB.out | apply below_alloc | apply pw_below_drewN | apply below_drew1) | exact HB.out)⟩⟩
        case rest =>
          clear HC12
          try clear c1
          try clear c2
          try clear p2
          try clear q2
          try clear hx2
          try clear qi2
          try clear c6
          try clear c8
          try clear c9
          try clear c10
          try clear c10b0
          try clear c11
          try clear c11b0
          try clear c19
          try clear c19b0
          try clear c19b1
          try clear c20
          try clear c20b0
          try clear c20b1
          try clear p20
          try clear q20
          try clear hx20
          try clear c21
          try clear c21b0
          try clear c21b1
          try clear p22
          try clear q22
          try clear hx22
          try clear qi22
          try clear hx207_0
          try clear p207
          try clear p22
          try clear q207
          try clear q22
          obtain ⟨kq, x55_11, rfl, HA, HJ11, HB⟩ := hcut
          cases kq with
          | zero => exact absurd HA.out (by simp [marshallinglaw06_LexErrors.j0])
          | succ kj11 =>
            have H := HA.out
            clear HA
            simp only [marshallinglaw06_LexErrors.j0] at H
            have HC23 := Aside0.mk H
            clear H
            go_upto_if 55 with (fail)
            go_cut [2] (fun v2 wc => ∃ (kq : Nat) (x2_22 : ByteArray), v2 = .string x2_22 ∧ Aside0 (marshallinglaw06_LexErrors.j1 kq x2_22 a3 true t198 t201 (rd y204 (ji9)) = some r) ∧ Aside0 (kq ≤ kj11) ∧ Aside0 (Below w.heap.size w wc))
            case first =>
              have H := HC23.out
              clear HC23
              by_cases c24 : x55_11 = true
              · subst c24
                have H1 : (marshallinglaw06_LexErrors.j1 kj11 (⟨#[]⟩ : ByteArray) a3 true t198 t201 (rd y204 (ji9))) = some r := by rw [if_pos rfl] at H; exact H
                clear H
                have H := H1
                clear H1
                have H' := Aside0.mk H
                clear H
                go_wp2
                go_meet
                case rel => exact ⟨_, ((⟨#[]⟩ : ByteArray)), (by first | rfl | (simp; done) | (simp [*]; done)), H', ⟨by have := HJ11.out; first | omega | exact Nat.le_refl _⟩, ⟨by repeat (first | (with_reducible first | exact HB.out | apply below_alloc | apply pw_below_drewN | apply below_drew1) | exact HB.out)⟩⟩
              · replace c24 := Bool.eq_false_iff.mpr c24
                subst c24
                have H1 : (marshallinglaw06_LexErrors.j1 kj11 a2 a3 true t198 t201 (rd y204 (ji9))) = some r := by rw [if_neg (show ¬ (false = true) by decide)] at H; exact H
                clear H
                have H := H1
                clear H1
                have H' := Aside0.mk H
                clear H
                go_wp2
                go_meet
                case rel => exact ⟨_, (a2), (by first | rfl | (simp; done) | (simp [*]; done)), H', ⟨by have := HJ11.out; first | omega | exact Nat.le_refl _⟩, ⟨by repeat (first | (with_reducible first | exact HB.out | apply below_alloc | apply pw_below_drewN | apply below_drew1) | exact HB.out)⟩⟩
            case rest =>
              clear HC23
              try clear c1
              try clear c2
              try clear p2
              try clear q2
              try clear hx2
              try clear qi2
              try clear c6
              try clear c8
              try clear c9
              try clear c10
              try clear c10b0
              try clear c11
              try clear c11b0
              try clear c19
              try clear c19b0
              try clear c19b1
              try clear c20
              try clear c20b0
              try clear c20b1
              try clear p20
              try clear q20
              try clear hx20
              try clear c21
              try clear c21b0
              try clear c21b1
              try clear p22
              try clear q22
              try clear hx22
              try clear qi22
              try clear c24
              try clear hx207_0
              try clear p2
              try clear p20
              try clear p207
              try clear p22
              try clear q2
              try clear q20
              try clear q207
              try clear q22
              obtain ⟨kq, x2_22, rfl, HA, HJ22, HB⟩ := hcut
              cases kq with
              | zero => exact absurd HA.out (by simp [marshallinglaw06_LexErrors.j1])
              | succ kj22 =>
                have H := HA.out
                clear HA
                simp only [marshallinglaw06_LexErrors.j1] at H
                obtain ⟨y208, hy208⟩ : ∃ y_ : List Int, y_ = (([(rd y204 (ji9))] : List Int)) := ⟨_, rfl⟩
                replace H : (if t198.size + (strOfNums y208).size ≤ 9223372036854775807 then (if (t198 ++ (strOfNums y208)).size + x2_22.size ≤ 9223372036854775807 then ((lex_All.f kj22 ((t198 ++ (strOfNums y208)) ++ x2_22)).bind fun bt211 => (marshallinglaw06_LexErrors.l0 kj22 a3 true t198 t201 ((t198 ++ (strOfNums y208)) ++ x2_22) bt211.1 bt211.2.1 bt211.2.2 (⟨#[]⟩ : ByteArray) 0)) else (none)) else (none)) = some r := by first | (rw [hy208]; with_reducible exact H) | (have H2_ := (Option.bind_some _ _).symm.trans H; rw [hy208]; with_reducible exact H2_) | (have H2_ := (Option.bind_some _ _).symm.trans H; with_reducible exact H2_) | with_reducible exact H | (rw [hy208]; exact H) | exact H
                have Ny208 := Aside0.mk hy208
                clear hy208
                by_cases c25 : t198.size + (strOfNums y208).size ≤ 9223372036854775807
                · rw [if_pos c25] at H
                  have c25b0 := eq_true c25
                  have c25b1 : decide (t198.size + (strOfNums y208).size ≤ 9223372036854775807) = true := decide_eq_true c25
                  try have c25b2 : (9223372036854775807 < t198.size + (strOfNums y208).size) = False := eq_false (Nat.not_lt.2 c25)
                  by_cases c26 : (t198 ++ (strOfNums y208)).size + x2_22.size ≤ 9223372036854775807
                  · rw [if_pos c26] at H
                    have c26b0 := eq_true c26
                    have c26b1 : decide ((t198 ++ (strOfNums y208)).size + x2_22.size ≤ 9223372036854775807) = true := decide_eq_true c26
                    try have c26b2 : (9223372036854775807 < (t198 ++ (strOfNums y208)).size + x2_22.size) = False := eq_false (Nat.not_lt.2 c26)
                    try have c26b3 : (9223372036854775807 < t198.size + (strOfNums y208).size + x2_22.size) = False := eq_false (Nat.not_lt.2 (by have h_ := c26; simp only [ByteArray.size_append] at h_; exact h_))
                    replace H := Option.bind_eq_some_iff.mp H
                    obtain ⟨⟨t211, t212, t213⟩, A270, H⟩ := H
                    replace H : (marshallinglaw06_LexErrors.l0 kj22 a3 true t198 t201 ((t198 ++ (strOfNums y208)) ++ x2_22) t211 t212 t213 (⟨#[]⟩ : ByteArray) 0) = some r := H
                    have A27 := Aside0.mk A270
                    clear A270
                    have H' := Aside0.mk H
                    clear H
                    go_wp2_with (first | ((with_reducible refine gate_dst (N := 58) rfl ?_); (try (refine gate_guard (by rfl) ?_; dsimp only)); refine Kd.R_lit (Kd.int .u8) _ 5 ?hg (N := 58) ?hd (xs := ([(rd y204 (ji9))] : List Int)) (inner := [.int .u8 (rd y204 (ji9))]) (ok := fun _ => True) (okp := fun _ => True) ?hr ?hp (fun _ hk => hk) trivial (Below.refl _ _) (Nat.le_refl _) (by simp) ?_; (case hd => rfl); (case hg => rfl); (case hr => first | (go_simp; done) | (go_simp; rfl)); (case hp => exact (Reps.one (show Kd.M (Kd.int .u8) _ _ _ (rd y204 (ji9)) [.int .u8 (rd y204 (ji9))] from rfl) (Reps.none _ _))); intro v209 w28 ho29 hb hg_ hnew_; clear hg_ hnew_; (first | rw [← Ny208.out] at ho29 | (simp only [Int.reduceToNat] at ho29; rw [← Ny208.out] at ho29)); have n0_ := Aside0.mk (Kd.R_lower ho29 (below_size (by repeat (first | (with_reducible first | exact HB.out | apply below_alloc | apply pw_below_drewN | apply below_drew1) | exact HB.out)))); have n1_ := Aside0.mk (below_step (by repeat (first | (with_reducible first | exact HB.out | apply below_alloc | apply pw_below_drewN | apply below_drew1) | exact HB.out)) hb); clear HB; have HO210 := n0_; have HB := n1_; clear n0_ n1_; clear hb ho29; have hcv30 := own_string (P := Tryd.prog) Tryd.underlying22 Tryd.underlying5 Tryd.underlying9 (Kd.own_of_R HO210.out)) | ((with_reducible refine gate_callee (f := 11) rfl ?_); refine goesL_ (some 65) rfl rfl Tryd.func11 (by kernel_rfl) rfl #[.string ((t198 ++ (strOfNums y208)) ++ x2_22)] rfl (by (try simp only [List.map_toArray, List.map_cons, List.map_nil]); first | done | rfl | (simp only [List.length_drop, List.length_take]; rfl)) ?_; (with_reducible refine (lex_All.calls kj22 ((t198 ++ (strOfNums y208)) ++ x2_22) t211 t212 t213 _ ?side1 A27.out).mono ?_); (case side1 => exact Glob.below HG.out (by repeat (first | (with_reducible first | exact HB.out | apply below_alloc | apply pw_below_drewN | apply below_drew1) | exact HB.out))); rintro e w31 ⟨v214, rfl, ho0, hb⟩; refine ⟨_, rfl, ?_⟩; have n0_ := Aside0.mk (Kd.R_below (by (with_reducible repeat (first | apply Kd.R_alloc | apply Kd.R_drewN | apply Kd.R_drew)); exact HO210.out) hb); have n1_ := Aside0.mk (Kd.R_lower ho0 (below_size (by repeat (first | (with_reducible first | exact HB.out | apply below_alloc | apply pw_below_drewN | apply below_drew1) | exact HB.out)))); have n2_ := Aside0.mk (below_step (by repeat (first | (with_reducible first | exact HB.out | apply below_alloc | apply pw_below_drewN | apply below_drew1) | exact HB.out)) hb); clear HO210; clear HB; have HO210 := n0_; have HO215 := n1_; have HB := n2_; clear n0_ n1_ n2_; (try clear hb); (try clear hb2); (try clear hk); (try clear hi); (try clear ho0)))
                    go_loopg [19, 20] kj22 (fun kq v19 v20 w' => ∃ (x19_3 : ByteArray) (x20_3 : Int), v19 = .string x19_3 ∧ v20 = .int .i64 x20_3 ∧ Aside0 (marshallinglaw06_LexErrors.l0 kq a3 true t198 t201 ((t198 ++ (strOfNums y208)) ++ x2_22) t211 t212 t213 x19_3 x20_3 = some r) ∧ Aside0 (kq ≤ kj22) ∧ Aside0 (Kd.R k40 40 w' w.heap.size (fun _ => True) v214 t211) ∧ Aside0 (Below w.heap.size w w'))
                    case atStart => exact ⟨((⟨#[]⟩ : ByteArray)), (0), (by first | rfl | (simp; done) | (simp [*]; done)), (by first | rfl | (simp; done) | (simp [*]; done)), H', ⟨Nat.le_refl _⟩, ⟨by (with_reducible repeat (first | apply Kd.R_alloc | apply Kd.R_drewN | apply Kd.R_drew)); exact HO215.out⟩, ⟨by repeat (first | (with_reducible first | exact HB.out | apply below_alloc | apply pw_below_drewN | apply below_drew1) | exact HB.out)⟩⟩
                    case round =>
                      clear H'
                      try clear c1
                      try clear c2
                      try clear p2
                      try clear q2
                      try clear hx2
                      try clear qi2
                      try clear hcv3
                      try clear c6
                      try clear c8
                      try clear c9
                      try clear c10
                      try clear c10b0
                      try clear c11
                      try clear c11b0
                      try clear c19
                      try clear c19b0
                      try clear c19b1
                      try clear c20
                      try clear c20b0
                      try clear c20b1
                      try clear p20
                      try clear q20
                      try clear hx20
                      try clear c21
                      try clear c21b0
                      try clear c21b1
                      try clear p22
                      try clear q22
                      try clear hx22
                      try clear qi22
                      try clear c24
                      try clear c25
                      try clear c25b0
                      try clear c25b1
                      try clear c25b2
                      try clear c26
                      try clear c26b0
                      try clear c26b1
                      try clear c26b2
                      try clear hcv30
                      try clear hx207_0
                      try clear p2
                      try clear p20
                      try clear p207
                      try clear p22
                      try clear q2
                      try clear q20
                      try clear q207
                      try clear q22
                      obtain ⟨x19_3, x20_3, rfl, rfl, HA, HK3, HO_16, HB⟩ := hrel
                      cases gk with
                      | zero => exact absurd HA.out (by simp [marshallinglaw06_LexErrors.l0])
                      | succ k3 =>
                        have H := HA.out
                        clear HA
                        simp only [marshallinglaw06_LexErrors.l0] at H
                        by_cases c32 : x20_3 < 128
                        · rw [if_pos c32] at H
                          have c32b0 : decide (x20_3 < 128) = true := decide_eq_true c32
                          clear c32
                          by_cases c33 : x19_3.size + 16 ≤ 9223372036854775807
                          · rw [if_pos c33] at H
                            have c33b0 := eq_true c33
                            have c33b1 : decide (x19_3.size + 16 ≤ 9223372036854775807) = true := decide_eq_true c33
                            try have c33b2 : (9223372036854775807 < x19_3.size + 16) = False := eq_false (Nat.not_lt.2 c33)
                            have H' := Aside0.mk H
                            clear H
                            go_wp2
                            go_roundg k3
                            case measure => have := HJ11.out; have := HJ22.out; have := HK3.out; omega
                            case rel => exact ⟨(x19_3 ++ (⟨#[32, 32, 32, 32, 32, 32, 32, 32, 32, 32, 32, 32, 32, 32, 32, 32]⟩ : ByteArray)), (wrap64 (x20_3 + 1)), (by first | rfl | (simp; done) | (simp [*]; done)), (by first | rfl | (simp; done) | (simp [*]; done)), H', ⟨by have := HJ11.out; have := HJ22.out; have := HK3.out; omega⟩, ⟨by (with_reducible repeat (first | apply Kd.R_alloc | apply Kd.R_drewN | apply Kd.R_drew)); exact HO_16.out⟩, ⟨by repeat (first | (with_reducible first | exact HB.out | apply below_alloc | apply pw_below_drewN | apply below_drew1) | exact HB.out)⟩⟩
                          · rw [if_neg c33] at H
                            exact absurd H (by simp)
                        · rw [if_neg c32] at H
                          have c32b0 : decide (x20_3 < 128) = false := decide_eq_false c32
                          clear c32
                          replace H := Option.bind_eq_some_iff.mp H
                          obtain ⟨⟨t216, t217, t218⟩, A340, H⟩ := H
                          replace H : (if t218 = 0 then (marshallinglaw06_LexErrors.j3 k3 a3 true t198 t201 ((t198 ++ (strOfNums y208)) ++ x2_22) t211 t212 t213 (t217 != 2048)) else (marshallinglaw06_LexErrors.j3 k3 a3 true t198 t201 ((t198 ++ (strOfNums y208)) ++ x2_22) t211 t212 t213 true)) = some r := H
                          have A34 := Aside0.mk A340
                          clear A340
                          have HC35 := Aside0.mk H
                          clear H
                          go_upto_region 17 with (first | ((with_reducible refine gate_callee (f := 11) rfl ?_); refine goesL_ (some 77) rfl rfl Tryd.func11 (by kernel_rfl) rfl #[.string x19_3] rfl (by (try simp only [List.map_toArray, List.map_cons, List.map_nil]); first | done | rfl | (simp only [List.length_drop, List.length_take]; rfl)) ?_; (with_reducible refine (lex_All.calls k3 x19_3 t216 t217 t218 _ ?side1 A34.out).mono ?_); (case side1 => exact Glob.below HG.out (by repeat (first | (with_reducible first | exact HB.out | apply below_alloc | apply pw_below_drewN | apply below_drew1) | exact HB.out))); rintro e w36 ⟨v219, rfl, ho0, hb⟩; refine ⟨_, rfl, ?_⟩; have n0_ := Aside0.mk (Kd.R_elder' (by (with_reducible repeat (first | apply Kd.R_alloc | apply Kd.R_drewN | apply Kd.R_drew)); exact HO_16.out) (Kd.R_base ho0) hb); have n1_ := Aside0.mk (Kd.R_lower (Kd.R_new' ho0 (Kd.R_lt (by (with_reducible repeat (first | apply Kd.R_alloc | apply Kd.R_drewN | apply Kd.R_drew)); exact HO_16.out))) (below_size (by repeat (first | (with_reducible first | exact HB.out | apply below_alloc | apply pw_below_drewN | apply below_drew1) | exact HB.out)))); have n2_ := Aside0.mk (below_step (by repeat (first | (with_reducible first | exact HB.out | apply below_alloc | apply pw_below_drewN | apply below_drew1) | exact HB.out)) hb); clear HO_16; clear HB; have HO_16 := n0_; have HO220 := n1_; have HB := n2_; clear n0_ n1_ n2_; (try clear hb); (try clear hb2); (try clear hk); (try clear hi); (try clear ho0)))
                          (try simp only [Act.put, List.setIfInBounds_toArray, List.set_cons_zero, List.set_cons_succ])
                          go_cut [86] (fun v86 wc => ∃ (kq : Nat) (x86_34 : Bool), v86 = .bool x86_34 ∧ Aside0 (marshallinglaw06_LexErrors.j3 kq a3 true t198 t201 ((t198 ++ (strOfNums y208)) ++ x2_22) t211 t212 t213 x86_34 = some r) ∧ Aside0 (kq ≤ k3) ∧ Aside0 (Kd.R k40 40 wc w.heap.size (fun _ => True) v214 t211) ∧ Aside0 (Below w.heap.size w wc))
                          case first =>
                            have H := HC35.out
                            clear HC35
                            by_cases c37 : t218 = 0
                            · rw [if_pos c37] at H
                              have c37b0 : (t218 == 0) = true := beq_iff_eq.mpr c37
                              have c37b1 : (t218 != 0) = false := bne_eq_false_iff_eq.mpr c37
                              clear c37
                              (first | rw [c37b0] | (simp only [i64_w, i32_w]; rw [c37b0]) | skip)
                              have H' := Aside0.mk H
                              clear H
                              go_wp2
                              go_meet
                              case rel => exact ⟨_, ((t217 != 2048)), (by first | rfl | (simp; done) | (simp [*]; done)), H', ⟨by have := HJ11.out; have := HJ22.out; have := HK3.out; first | omega | exact Nat.le_refl _⟩, ⟨by (with_reducible repeat (first | apply Kd.R_alloc | apply Kd.R_drewN | apply Kd.R_drew)); exact Kd.R_mono HO_16.out (fun _ hk => trivial)⟩, ⟨by repeat (first | (with_reducible first | exact HB.out | apply below_alloc | apply pw_below_drewN | apply below_drew1) | exact HB.out)⟩⟩
                            · rw [if_neg c37] at H
                              have c37b0 : (t218 == 0) = false := beq_eq_false_iff_ne.mpr c37
                              have c37b1 : (t218 != 0) = true := bne_iff_ne.mpr c37
                              (first | rw [c37b0] | (simp only [i64_w, i32_w]; rw [c37b0]) | skip)
                              have H' := Aside0.mk H
                              clear H
                              go_wp2
                              go_meet
                              case rel => exact ⟨_, (true), (by first | rfl | (simp; done) | (simp [*]; done)), H', ⟨by have := HJ11.out; have := HJ22.out; have := HK3.out; first | omega | exact Nat.le_refl _⟩, ⟨by (with_reducible repeat (first | apply Kd.R_alloc | apply Kd.R_drewN | apply Kd.R_drew)); exact Kd.R_mono HO_16.out (fun _ hk => trivial)⟩, ⟨by repeat (first | (with_reducible first | exact HB.out | apply below_alloc | apply pw_below_drewN | apply below_drew1) | exact HB.out)⟩⟩
                          case rest =>
                            clear HC35
                            try clear c1
                            try clear c2
                            try clear p2
                            try clear q2
                            try clear hx2
                            try clear qi2
                            try clear c3
                            try clear hcv3
                            try clear c6
                            try clear p6
                            try clear c8
                            try clear c9
                            try clear c10
                            try clear c10b0
                            try clear c11
                            try clear c11b0
                            try clear c19
                            try clear c19b0
                            try clear c19b1
                            try clear c20
                            try clear c20b0
                            try clear c20b1
                            try clear p20
                            try clear q20
                            try clear hx20
                            try clear c21
                            try clear c21b0
                            try clear c21b1
                            try clear p22
                            try clear q22
                            try clear hx22
                            try clear qi22
                            try clear c24
                            try clear c25
                            try clear c25b0
                            try clear c25b1
                            try clear c25b2
                            try clear c26
                            try clear c26b0
                            try clear c26b1
                            try clear c26b2
                            try clear hcv30
                            try clear c32
                            try clear c32b0
                            try clear c33
                            try clear c33b0
                            try clear c33b1
                            try clear c33b2
                            try clear c37
                            try clear c37b0
                            try clear c37b1
                            try clear hx207_0
                            try clear p2
                            try clear p20
                            try clear p207
                            try clear p22
                            try clear q2
                            try clear q20
                            try clear q207
                            try clear q22
                            obtain ⟨kq, x86_34, rfl, HA, HJ34, HO_16, HB⟩ := hcut
                            cases kq with
                            | zero => exact absurd HA.out (by simp [marshallinglaw06_LexErrors.j3])
                            | succ kj34 =>
                              have H := HA.out
                              clear HA
                              simp only [marshallinglaw06_LexErrors.j3] at H
                              by_cases c38 : x86_34 = true
                              · subst c38
                                have H1 : (some false) = some r := by rw [if_pos rfl] at H; exact H
                                clear H
                                have H := H1
                                clear H1
                                obtain rfl := Option.some.inj H
                                go_wp2
                                go_ret
                                exact ⟨by first | rfl | (simp [errW_none, errW_some] <;> rfl) | (simp only [← hji9]; first | rfl | (simp [errW_none, errW_some] <;> rfl)) | (simp [*, errW_none, errW_some] <;> rfl), by repeat (first | (with_reducible first | exact HB.out | apply below_alloc | apply pw_below_drewN | apply below_drew1) | exact HB.out)⟩
                              · replace c38 := Bool.eq_false_iff.mpr c38
                                subst c38
                                have H1 : (if 0 ≤ (wrap64 (2049 + (wrap64 (Int.tmod a3 9)))) then (if (wrap64 (2049 + (wrap64 (Int.tmod a3 9))) : Int).toNat ≤ 281474976710656 then ((lex_All.f kj34 (strOfNums (List.replicate (wrap64 (2049 + (wrap64 (Int.tmod a3 9))) : Int).toNat 0))).bind fun bt224 => (if bt224.2.2 = 4 then (marshallinglaw06_LexErrors.j4 kj34 true t198 t201 ((t198 ++ (strOfNums y208)) ++ x2_22) t211 t212 t213 (bt224.2.1 != 2048)) else (marshallinglaw06_LexErrors.j4 kj34 true t198 t201 ((t198 ++ (strOfNums y208)) ++ x2_22) t211 t212 t213 true))) else (none)) else (none)) = some r := by rw [if_neg (show ¬ (false = true) by decide)] at H; exact H
                                clear H
                                have H := H1
                                clear H1
                                obtain ⟨ji39, hji39⟩ : ∃ j_ : Int, (wrap64 (2049 + (wrap64 (Int.tmod a3 9)))) = j_ := ⟨_, rfl⟩
                                replace H : (if 0 ≤ (ji39) then (if (ji39 : Int).toNat ≤ 281474976710656 then ((lex_All.f kj34 (strOfNums (List.replicate (ji39 : Int).toNat 0))).bind fun bt224 => (if bt224.2.2 = 4 then (marshallinglaw06_LexErrors.j4 kj34 true t198 t201 ((t198 ++ (strOfNums y208)) ++ x2_22) t211 t212 t213 (bt224.2.1 != 2048)) else (marshallinglaw06_LexErrors.j4 kj34 true t198 t201 ((t198 ++ (strOfNums y208)) ++ x2_22) t211 t212 t213 true))) else (none)) else (none)) = some r := by first | (rw [hji39] at H; exact H) | (simp only [hji39] at H ⊢; exact H)
                                have hji39v : (IntKind.i64.wrap (2049 + (IntKind.i64.wrap (Int.tmod a3 9)))) = ji39 := by first | exact hji39 | (simp only [i64_w, i32_w]; exact hji39)
                                have hji39w : (IntKind.i64.wrap (2049 + (wrap64 (Int.tmod a3 9)))) = ji39 := (i64_w _).trans hji39
                                by_cases c40 : 0 ≤ (ji39)
                                · rw [if_pos c40] at H
                                  have c40b0 := eq_true c40
                                  have c40b1 : decide (0 ≤ (ji39)) = true := decide_eq_true c40
                                  clear c40
                                  by_cases c41 : (ji39 : Int).toNat ≤ 281474976710656
                                  · rw [if_pos c41] at H
                                    have c41b0 := eq_true c41
                                    have c41b1 : decide ((ji39 : Int).toNat ≤ 281474976710656) = true := decide_eq_true c41
                                    clear c41
                                    obtain ⟨y221, hy221⟩ : ∃ y_ : List Int, y_ = (List.replicate (ji39 : Int).toNat 0) := ⟨_, rfl⟩
                                    replace H : ((lex_All.f kj34 (strOfNums y221)).bind fun bt224 => (if bt224.2.2 = 4 then (marshallinglaw06_LexErrors.j4 kj34 true t198 t201 ((t198 ++ (strOfNums y208)) ++ x2_22) t211 t212 t213 (bt224.2.1 != 2048)) else (marshallinglaw06_LexErrors.j4 kj34 true t198 t201 ((t198 ++ (strOfNums y208)) ++ x2_22) t211 t212 t213 true))) = some r := by first | (rw [hy221]; with_reducible exact H) | (have H2_ := (Option.bind_some _ _).symm.trans H; rw [hy221]; with_reducible exact H2_) | (have H2_ := (Option.bind_some _ _).symm.trans H; with_reducible exact H2_) | with_reducible exact H | (rw [hy221]; exact H) | exact H
                                    have Ny221 := Aside0.mk hy221
                                    clear hy221
                                    replace H := Option.bind_eq_some_iff.mp H
                                    obtain ⟨⟨t224, t225, t226⟩, A420, H⟩ := H
                                    replace H : (if t226 = 4 then (marshallinglaw06_LexErrors.j4 kj34 true t198 t201 ((t198 ++ (strOfNums y208)) ++ x2_22) t211 t212 t213 (t225 != 2048)) else (marshallinglaw06_LexErrors.j4 kj34 true t198 t201 ((t198 ++ (strOfNums y208)) ++ x2_22) t211 t212 t213 true)) = some r := H
                                    have A42 := Aside0.mk A420
                                    clear A420
                                    have HC43 := Aside0.mk H
                                    clear H
                                    go_upto_region 21 with (first | ((with_reducible refine gate_dst (N := 91) rfl ?_); (try (refine gate_guard (by rfl) ?_; dsimp only)); refine Kd.R_make (Kd.int .u8) _ 5 rfl (N := 91) rfl 22 _ _ rfl ji39 rfl rfl Tryd.underlying22 (.int .u8 0) 1 info5 rfl (by decide) (by omega) 0 (ok := fun _ => True) (okp := fun _ => True) rfl (fun _ hk => hk) trivial (of_decide_eq_true (by first | (with_reducible assumption) | assumption)) (Nat.le_trans (Nat.mul_le_mul_right _ (of_decide_eq_true (by first | (with_reducible assumption) | assumption) : ji39.toNat ≤ 281474976710656)) (by omega)) (Below.refl _ _) (Nat.le_refl _) ?_; intro v222 w44 ho45 hb hg_ hnew_; clear hg_ hnew_; (first | rw [← Ny221.out] at ho45 | (simp only [Int.reduceToNat] at ho45; rw [← Ny221.out] at ho45)); have n0_ := Aside0.mk (Kd.R_below (by (with_reducible repeat (first | apply Kd.R_alloc | apply Kd.R_drewN | apply Kd.R_drew)); exact HO_16.out) hb); have n1_ := Aside0.mk (Kd.R_lower ho45 (below_size (by repeat (first | (with_reducible first | exact HB.out | apply below_alloc | apply pw_below_drewN | apply below_drew1) | exact HB.out)))); have n2_ := Aside0.mk (below_step (by repeat (first | (with_reducible first | exact HB.out | apply below_alloc | apply pw_below_drewN | apply below_drew1) | exact HB.out)) hb); clear HO_16; clear HB; have HO_16 := n0_; have HO223 := n1_; have HB := n2_; clear n0_ n1_ n2_; clear hb ho45; have hcv46 := own_string (P := Tryd.prog) Tryd.underlying22 Tryd.underlying5 Tryd.underlying9 (Kd.own_of_R HO223.out)) | ((with_reducible refine gate_callee (f := 11) rfl ?_); refine goesL_ (some 95) rfl rfl Tryd.func11 (by kernel_rfl) rfl #[.string (strOfNums y221)] rfl (by (try simp only [List.map_toArray, List.map_cons, List.map_nil]); first | done | rfl | (simp only [List.length_drop, List.length_take]; rfl)) ?_; (with_reducible refine (lex_All.calls kj34 (strOfNums y221) t224 t225 t226 _ ?side1 A42.out).mono ?_); (case side1 => exact Glob.below HG.out (by repeat (first | (with_reducible first | exact HB.out | apply below_alloc | apply pw_below_drewN | apply below_drew1) | exact HB.out))); rintro e w47 ⟨v227, rfl, ho0, hb⟩; refine ⟨_, rfl, ?_⟩; have n0_ := Aside0.mk (Kd.R_elder' (by (with_reducible repeat (first | apply Kd.R_alloc | apply Kd.R_drewN | apply Kd.R_drew)); exact HO_16.out) (Kd.R_base ho0) hb); have n1_ := Aside0.mk (Kd.R_below (by (with_reducible repeat (first | apply Kd.R_alloc | apply Kd.R_drewN | apply Kd.R_drew)); exact HO223.out) hb); have n2_ := Aside0.mk (Kd.R_lower (Kd.R_new' ho0 (Kd.R_lt (by (with_reducible repeat (first | apply Kd.R_alloc | apply Kd.R_drewN | apply Kd.R_drew)); exact HO_16.out))) (below_size (by repeat (first | (with_reducible first | exact HB.out | apply below_alloc | apply pw_below_drewN | apply below_drew1) | exact HB.out)))); have n3_ := Aside0.mk (below_step (by repeat (first | (with_reducible first | exact HB.out | apply below_alloc | apply pw_below_drewN | apply below_drew1) | exact HB.out)) hb); clear HO_16; clear HO223; clear HB; have HO_16 := n0_; have HO223 := n1_; have HO228 := n2_; have HB := n3_; clear n0_ n1_ n2_ n3_; (try clear hb); (try clear hb2); (try clear hk); (try clear hi); (try clear ho0)))
                                    (try simp only [Act.put, List.setIfInBounds_toArray, List.set_cons_zero, List.set_cons_succ])
                                    go_cut [104] (fun v104 wc => ∃ (kq : Nat) (x104_42 : Bool), v104 = .bool x104_42 ∧ Aside0 (marshallinglaw06_LexErrors.j4 kq true t198 t201 ((t198 ++ (strOfNums y208)) ++ x2_22) t211 t212 t213 x104_42 = some r) ∧ Aside0 (kq ≤ kj34) ∧ Aside0 (Kd.R k40 40 wc w.heap.size (fun _ => True) v214 t211) ∧ Aside0 (Below w.heap.size w wc))
                                    case first =>
                                      have H := HC43.out
                                      clear HC43
                                      by_cases c48 : t226 = 4
                                      · rw [if_pos c48] at H
                                        have c48b0 : (t226 == 4) = true := beq_iff_eq.mpr c48
                                        have c48b1 : (t226 != 4) = false := bne_eq_false_iff_eq.mpr c48
                                        clear c48
                                        (first | rw [c48b0] | (simp only [i64_w, i32_w]; rw [c48b0]) | skip)
                                        have H' := Aside0.mk H
                                        clear H
                                        go_wp2
                                        go_meet
                                        case rel => exact ⟨_, ((t225 != 2048)), (by first | rfl | (simp; done) | (simp [*]; done)), H', ⟨by have := HJ11.out; have := HJ22.out; have := HK3.out; have := HJ34.out; first | omega | exact Nat.le_refl _⟩, ⟨by (with_reducible repeat (first | apply Kd.R_alloc | apply Kd.R_drewN | apply Kd.R_drew)); exact Kd.R_mono HO_16.out (fun _ hk => trivial)⟩, ⟨by repeat (first | (with_reducible first | exact HB.out | apply below_alloc | apply pw_below_drewN | apply below_drew1) | exact HB.out)⟩⟩
                                      · rw [if_neg c48] at H
                                        have c48b0 : (t226 == 4) = false := beq_eq_false_iff_ne.mpr c48
                                        have c48b1 : (t226 != 4) = true := bne_iff_ne.mpr c48
                                        (first | rw [c48b0] | (simp only [i64_w, i32_w]; rw [c48b0]) | skip)
                                        have H' := Aside0.mk H
                                        clear H
                                        go_wp2
                                        go_meet
                                        case rel => exact ⟨_, (true), (by first | rfl | (simp; done) | (simp [*]; done)), H', ⟨by have := HJ11.out; have := HJ22.out; have := HK3.out; have := HJ34.out; first | omega | exact Nat.le_refl _⟩, ⟨by (with_reducible repeat (first | apply Kd.R_alloc | apply Kd.R_drewN | apply Kd.R_drew)); exact Kd.R_mono HO_16.out (fun _ hk => trivial)⟩, ⟨by repeat (first | (with_reducible first | exact HB.out | apply below_alloc | apply pw_below_drewN | apply below_drew1) | exact HB.out)⟩⟩
                                    case rest =>
                                      clear HC43
                                      try clear c1
                                      try clear c2
                                      try clear p2
                                      try clear q2
                                      try clear hx2
                                      try clear qi2
                                      try clear c3
                                      try clear hcv3
                                      try clear c4
                                      try clear hcv4
                                      try clear c6
                                      try clear p6
                                      try clear c8
                                      try clear c9
                                      try clear c10
                                      try clear c10b0
                                      try clear c11
                                      try clear c11b0
                                      try clear c19
                                      try clear c19b0
                                      try clear c19b1
                                      try clear c20
                                      try clear c20b0
                                      try clear c20b1
                                      try clear p20
                                      try clear q20
                                      try clear hx20
                                      try clear c21
                                      try clear c21b0
                                      try clear c21b1
                                      try clear p22
                                      try clear q22
                                      try clear hx22
                                      try clear qi22
                                      try clear c24
                                      try clear c25
                                      try clear c25b0
                                      try clear c25b1
                                      try clear c25b2
                                      try clear c26
                                      try clear c26b0
                                      try clear c26b1
                                      try clear c26b2
                                      try clear hcv30
                                      try clear c32
                                      try clear c32b0
                                      try clear c33
                                      try clear c33b0
                                      try clear c33b1
                                      try clear c33b2
                                      try clear c37
                                      try clear c37b0
                                      try clear c37b1
                                      try clear c38
                                      try clear c40
                                      try clear c40b0
                                      try clear c40b1
                                      try clear c41
                                      try clear c41b0
                                      try clear c41b1
                                      try clear hcv46
                                      try clear c48
                                      try clear c48b0
                                      try clear c48b1
                                      try clear hx207_0
                                      try clear p2
                                      try clear p20
                                      try clear p207
                                      try clear p22
                                      try clear p6
                                      try clear q2
                                      try clear q20
                                      try clear q207
                                      try clear q22
                                      obtain ⟨kq, x104_42, rfl, HA, HJ42, HO_16, HB⟩ := hcut
                                      cases kq with
                                      | zero => exact absurd HA.out (by simp [marshallinglaw06_LexErrors.j4])
                                      | succ kj42 =>
                                        have H := HA.out
                                        clear HA
                                        simp only [marshallinglaw06_LexErrors.j4] at H
                                        by_cases c49 : x104_42 = true
                                        · subst c49
                                          have H1 : (some false) = some r := by rw [if_pos rfl] at H; exact H
                                          clear H
                                          have H := H1
                                          clear H1
                                          obtain rfl := Option.some.inj H
                                          go_wp2
                                          go_ret
                                          exact ⟨by first | rfl | (simp [errW_none, errW_some] <;> rfl) | (simp only [← hji9, ← hji39]; first | rfl | (simp [errW_none, errW_some] <;> rfl)) | (simp [*, errW_none, errW_some] <;> rfl), by repeat (first | (with_reducible first | exact HB.out | apply below_alloc | apply pw_below_drewN | apply below_drew1) | exact HB.out)⟩
                                        · replace c49 := Bool.eq_false_iff.mpr c49
                                          subst c49
                                          have H1 : (if t201 = 0 then (if (((t198 ++ (strOfNums y208)) ++ x2_22).size : Int) > 2048 then (some true) else (if true = true then (if t213 = 2 then (if t212 = (t198.size : Int) then (some ((t211.length : Int) == 0)) else (some false)) else (some false)) else (some false))) else (some true)) = some r := by rw [if_neg (show ¬ (false = true) by decide)] at H; exact H
                                          clear H
                                          have H := H1
                                          clear H1
                                          by_cases c50 : t201 = 0
                                          · rw [if_pos c50] at H
                                            have c50b0 : (t201 == 0) = true := beq_iff_eq.mpr c50
                                            have c50b1 : (t201 != 0) = false := bne_eq_false_iff_eq.mpr c50
                                            clear c50
                                            by_cases c51 : (((t198 ++ (strOfNums y208)) ++ x2_22).size : Int) > 2048
                                            · rw [if_pos c51] at H
                                              have c51b0 : decide (2048 < (((t198 ++ (strOfNums y208)) ++ x2_22).size : Int)) = true := decide_eq_true c51
                                              have c51b1 : decide (2048 < ((t198 ++ (strOfNums y208)) ++ x2_22).size) = true := decide_eq_true (by omega)
                                              (try (have c51b6 := c51b1; simp only [ByteArray.size_append] at c51b6))
                                              (try (have c51b7 := c51b1; simp only [ByteArray.size_append, strOfNums_size] at c51b7))
                                              (try (have c51b8 := c51b0; simp only [ByteArray.size_append, Int.natCast_add] at c51b8))
                                              (try (have c51b9 := c51b0; simp only [ByteArray.size_append, strOfNums_size, Int.natCast_add] at c51b9))
                                              clear c51
                                              obtain rfl := Option.some.inj H
                                              go_wp2
                                              go_ret
                                              exact ⟨by first | rfl | (simp [errW_none, errW_some] <;> rfl) | (simp only [← hji9, ← hji39]; first | rfl | (simp [errW_none, errW_some] <;> rfl)) | (simp [*, errW_none, errW_some] <;> rfl), by repeat (first | (with_reducible first | exact HB.out | apply below_alloc | apply pw_below_drewN | apply below_drew1) | exact HB.out)⟩
                                            · rw [if_neg c51] at H
                                              have c51b0 : decide (2048 < (((t198 ++ (strOfNums y208)) ++ x2_22).size : Int)) = false := decide_eq_false c51
                                              have c51b1 : decide (2048 < ((t198 ++ (strOfNums y208)) ++ x2_22).size) = false := decide_eq_false (by omega)
                                              (try (have c51b6 := c51b1; simp only [ByteArray.size_append] at c51b6))
                                              (try (have c51b7 := c51b1; simp only [ByteArray.size_append, strOfNums_size] at c51b7))
                                              (try (have c51b8 := c51b0; simp only [ByteArray.size_append, Int.natCast_add] at c51b8))
                                              (try (have c51b9 := c51b0; simp only [ByteArray.size_append, strOfNums_size, Int.natCast_add] at c51b9))
                                              clear c51
                                              have H1 : (if t213 = 2 then (if t212 = (t198.size : Int) then (some ((t211.length : Int) == 0)) else (some false)) else (some false)) = some r := by first | (rw [if_pos rfl] at H; exact H) | (rw [if_pos trivial] at H; exact H) | exact H | simpa using H
                                              clear H
                                              have H := H1
                                              clear H1
                                              by_cases c52 : t213 = 2
                                              · rw [if_pos c52] at H
                                                have c52b0 : (t213 == 2) = true := beq_iff_eq.mpr c52
                                                have c52b1 : (t213 != 2) = false := bne_eq_false_iff_eq.mpr c52
                                                clear c52
                                                by_cases c53 : t212 = (t198.size : Int)
                                                · rw [if_pos c53] at H
                                                  have c53b0 : (t212 == (t198.size : Int)) = true := beq_iff_eq.mpr c53
                                                  have c53b1 : (t212 != (t198.size : Int)) = false := bne_eq_false_iff_eq.mpr c53
                                                  clear c53
                                                  obtain rfl := Option.some.inj H
                                                  obtain ⟨Ao54, co54, eo54⟩ := Kd.R_slice HO_16.out
                                                  subst eo54
                                                  go_wp2
                                                  go_ret
                                                  exact ⟨by first | rfl | (simp [errW_none, errW_some] <;> rfl) | (simp only [← hji9, ← hji39]; first | rfl | (simp [errW_none, errW_some] <;> rfl)) | (simp [*, errW_none, errW_some] <;> rfl), by repeat (first | (with_reducible first | exact HB.out | apply below_alloc | apply pw_below_drewN | apply below_drew1) | exact HB.out)⟩
                                                · rw [if_neg c53] at H
                                                  have c53b0 : (t212 == (t198.size : Int)) = false := beq_eq_false_iff_ne.mpr c53
                                                  have c53b1 : (t212 != (t198.size : Int)) = true := bne_iff_ne.mpr c53
                                                  obtain rfl := Option.some.inj H
                                                  go_wp2
                                                  go_ret
                                                  exact ⟨by first | rfl | (simp [errW_none, errW_some] <;> rfl) | (simp only [← hji9, ← hji39]; first | rfl | (simp [errW_none, errW_some] <;> rfl)) | (simp [*, errW_none, errW_some] <;> rfl), by repeat (first | (with_reducible first | exact HB.out | apply below_alloc | apply pw_below_drewN | apply below_drew1) | exact HB.out)⟩
                                              · rw [if_neg c52] at H
                                                have c52b0 : (t213 == 2) = false := beq_eq_false_iff_ne.mpr c52
                                                have c52b1 : (t213 != 2) = true := bne_iff_ne.mpr c52
                                                obtain rfl := Option.some.inj H
                                                go_wp2
                                                go_ret
                                                exact ⟨by first | rfl | (simp [errW_none, errW_some] <;> rfl) | (simp only [← hji9, ← hji39]; first | rfl | (simp [errW_none, errW_some] <;> rfl)) | (simp [*, errW_none, errW_some] <;> rfl), by repeat (first | (with_reducible first | exact HB.out | apply below_alloc | apply pw_below_drewN | apply below_drew1) | exact HB.out)⟩
                                          · rw [if_neg c50] at H
                                            have c50b0 : (t201 == 0) = false := beq_eq_false_iff_ne.mpr c50
                                            have c50b1 : (t201 != 0) = true := bne_iff_ne.mpr c50
                                            obtain rfl := Option.some.inj H
                                            go_wp2
                                            go_ret
                                            exact ⟨by first | rfl | (simp [errW_none, errW_some] <;> rfl) | (simp only [← hji9, ← hji39]; first | rfl | (simp [errW_none, errW_some] <;> rfl)) | (simp [*, errW_none, errW_some] <;> rfl), by repeat (first | (with_reducible first | exact HB.out | apply below_alloc | apply pw_below_drewN | apply below_drew1) | exact HB.out)⟩
                                  · rw [if_neg c41] at H
                                    exact absurd H (by simp)
                                · rw [if_neg c40] at H
                                  exact absurd H (by simp)
                  · rw [if_neg c26] at H
                    exact absurd H (by simp)
                · rw [if_neg c25] at H
                  exact absurd H (by simp)
      · rw [if_neg c11] at H
        exact absurd H (by simp)
    · rw [if_neg c10] at H
      exact absurd H (by simp)
  · replace c6 := Bool.eq_false_iff.mpr c6
    subst c6
    have H1 : (some false) = some r := by rw [if_neg (show ¬ (false = true) by decide)] at H; exact H
    clear H
    have H := H1
    clear H1
    obtain rfl := Option.some.inj H
    go_enter Tryd.func8, Tryd.ntmps8
    go_wp2_with (first | ((with_reducible refine gate_callee (f := 9) rfl ?_); refine goesL_ (some 28) rfl rfl Tryd.func9 (by kernel_rfl) rfl #[] rfl (by (try simp only [List.map_toArray, List.map_cons, List.map_nil]); first | done | rfl | (simp only [List.length_drop, List.length_take]; rfl)) ?_; (with_reducible refine (marshallinglaw06_examples.calls k  false _ ?side1 A5.out).mono ?_); (case side1 => exact Glob.below HG.out (by repeat (first | (with_reducible first | exact HB.out | apply below_alloc | apply pw_below_drewN | apply below_drew1) | exact HB.out))); rintro e w55 ⟨rfl, hb⟩; refine ⟨_, rfl, ?_⟩; have n0_ := Aside0.mk (below_step (by repeat (first | (with_reducible first | exact HB.out | apply below_alloc | apply pw_below_drewN | apply below_drew1) | exact HB.out)) hb); clear HB; have HB := n0_; clear n0_; (try clear hb); (try clear hb2); (try clear hk); (try clear hi)))
    go_ret
    exact ⟨by first | rfl | (simp [errW_none, errW_some] <;> rfl) | (simp [*, errW_none, errW_some] <;> rfl), by repeat (first | (with_reducible first | exact HB.out | apply below_alloc | apply pw_below_drewN | apply below_drew1) | exact HB.out)⟩

end Go.Proofs.YtjjphfnohgdpjaaDoor.K
