-- Written by this session's program mprint.py over the kit's printer (with hand-written contracts laid in). Not trusted: Lean checks it.
import Derived.Test.YtjjphfnohgdpjaaDoorK0
import Derived.Test.YtjjphfnohgdpjaaDoorK5
import Derived.Test.YtjjphfnohgdpjaaDoorK7
import Derived.Test.YtjjphfnohgdpjaaDoorK8
namespace Go.Proofs.YtjjphfnohgdpjaaDoor.K
open Go.RowKit Go.Proofs.YtjjphfnohgdpjaaDoorW.PrintWords Go.Proofs.YtjjphfnohgdpjaaDoorW.PrintLast Go.Proofs.YtjjphfnohgdpjaaDoorW.PrintMore
attribute [local go_sem] max2_int min2_int max_two min_two max_three min_three max_four min_four   -- for this text's walks alone
set_option linter.unusedVariables false
set_option linter.unusedSimpArgs false

/-! ### marshallinglaw06_LexPlaces: function 5 -/
mutual
def marshallinglaw06_LexPlaces.l0 : Nat → Bool → ByteArray → List (S40) → Int → Int → Int → Option (Bool)
  | 0, _, _, _, _, _, _ => none
  | k + 1, x5, x6, x7, x8, x10, x11 => if x11 ≤ (x7.length : Int) then (if x11 < (x7.length : Int) then (if 0 ≤ x11 then (if ((rd_T40 x7 x11).f0) = 3 then (if 1 + ((rd_T40 x7 x11).f1).size ≤ 9223372036854775807 then (if ((⟨#[39]⟩ : ByteArray) ++ ((rd_T40 x7 x11).f1)).size + 1 ≤ 9223372036854775807 then (marshallinglaw06_LexPlaces.j1 k x5 x6 x7 x8 x10 x11 ((rd_T40 x7 x11).f3) (((⟨#[39]⟩ : ByteArray) ++ ((rd_T40 x7 x11).f1)) ++ (⟨#[39]⟩ : ByteArray))) else (none)) else (none)) else (marshallinglaw06_LexPlaces.j1 k x5 x6 x7 x8 x10 x11 ((rd_T40 x7 x11).f3) ((rd_T40 x7 x11).f1))) else (none)) else (marshallinglaw06_LexPlaces.j1 k x5 x6 x7 x8 x10 x11 (x6.size : Int) (⟨#[]⟩ : ByteArray))) else (if x5 = true then (some (x8 == (x6.size : Int))) else (some false))
def marshallinglaw06_LexPlaces.j1 : Nat → Bool → ByteArray → List (S40) → Int → Int → Int → Int → ByteArray → Option (Bool)
  | 0, _, _, _, _, _, _, _, _ => none
  | k + 1, x5, x6, x7, x8, x10, x11, x12, x13 => if x12 < x10 then (marshallinglaw06_LexPlaces.j2 k x5 x6 x7 x8 x10 x11 x12 x13 true) else (if (wrap64 (x12 + (x13.size : Int))) > (x6.size : Int) then (marshallinglaw06_LexPlaces.j2 k x5 x6 x7 x8 x10 x11 x12 x13 true) else (if 0 ≤ x12 then (if x12 ≤ (wrap64 (x12 + (x13.size : Int))) then (if (wrap64 (x12 + (x13.size : Int))) ≤ (x6.size : Int) then (marshallinglaw06_LexPlaces.j2 k x5 x6 x7 x8 x10 x11 x12 x13 ((x6.extract (x12 : Int).toNat ((wrap64 (x12 + (x13.size : Int))) : Int).toNat).toList != x13.toList)) else (none)) else (none)) else (none)))
def marshallinglaw06_LexPlaces.j2 : Nat → Bool → ByteArray → List (S40) → Int → Int → Int → Int → ByteArray → Bool → Option (Bool)
  | 0, _, _, _, _, _, _, _, _, _ => none
  | k + 1, x5, x6, x7, x8, x10, x11, x12, x13, x94 => if x94 = true then (some false) else (marshallinglaw06_LexPlaces.l1 k x5 x6 x7 x8 x11 x12 x13 x10)
def marshallinglaw06_LexPlaces.l1 : Nat → Bool → ByteArray → List (S40) → Int → Int → Int → ByteArray → Int → Option (Bool)
  | 0, _, _, _, _, _, _, _, _ => none
  | k + 1, x5, x6, x7, x8, x11, x12, x13, x14 => if x14 < x12 then (if 0 ≤ x14 then (if x14 < (x6.size : Int) then (if (bt x6 x14) = 32 then (marshallinglaw06_LexPlaces.l1 k x5 x6 x7 x8 x11 x12 x13 (wrap64 (x14 + 1))) else (if (bt x6 x14) = 9 then (marshallinglaw06_LexPlaces.l1 k x5 x6 x7 x8 x11 x12 x13 (wrap64 (x14 + 1))) else (if (bt x6 x14) = 10 then (marshallinglaw06_LexPlaces.l1 k x5 x6 x7 x8 x11 x12 x13 (wrap64 (x14 + 1))) else (if (bt x6 x14) = 13 then (marshallinglaw06_LexPlaces.l1 k x5 x6 x7 x8 x11 x12 x13 (wrap64 (x14 + 1))) else (some false))))) else (none)) else (none)) else (marshallinglaw06_LexPlaces.l0 k x5 x6 x7 x8 (wrap64 (x12 + (x13.size : Int))) (wrap64 (x11 + 1)))
end
def marshallinglaw06_LexPlaces.f (k : Nat) (l0 : List Int) (a1 : Bool) : Option (Bool) := (marshallinglaw06_examples.f k).bind fun t250 => (if t250 = true then ((marshallinglaw06_words.f k l0 a1).bind fun t251 => ((lex_All.f k t251).bind fun bt252 => (if bt252.2.2 = 0 then (marshallinglaw06_LexPlaces.l0 k t250 t251 bt252.1 bt252.2.1 0 0) else (if bt252.2.1 ≥ 0 then (some (decide (bt252.2.1 < (mx (t251.size : Int) 1)))) else (some false))))) else (some false))
theorem marshallinglaw06_LexPlaces.mono_l : ∀ k, (∀ y0 y1 y2 y3 y4 y5, LeO (marshallinglaw06_LexPlaces.l0 k y0 y1 y2 y3 y4 y5) (marshallinglaw06_LexPlaces.l0 (k + 1) y0 y1 y2 y3 y4 y5)) ∧ (∀ y0 y1 y2 y3 y4 y5 y6 y7, LeO (marshallinglaw06_LexPlaces.j1 k y0 y1 y2 y3 y4 y5 y6 y7) (marshallinglaw06_LexPlaces.j1 (k + 1) y0 y1 y2 y3 y4 y5 y6 y7)) ∧ (∀ y0 y1 y2 y3 y4 y5 y6 y7 y8, LeO (marshallinglaw06_LexPlaces.j2 k y0 y1 y2 y3 y4 y5 y6 y7 y8) (marshallinglaw06_LexPlaces.j2 (k + 1) y0 y1 y2 y3 y4 y5 y6 y7 y8)) ∧ (∀ y0 y1 y2 y3 y4 y5 y6 y7, LeO (marshallinglaw06_LexPlaces.l1 k y0 y1 y2 y3 y4 y5 y6 y7) (marshallinglaw06_LexPlaces.l1 (k + 1) y0 y1 y2 y3 y4 y5 y6 y7))
  | 0 => ⟨fun _ _ _ _ _ _ r h => by simp [marshallinglaw06_LexPlaces.l0] at h, fun _ _ _ _ _ _ _ _ r h => by simp [marshallinglaw06_LexPlaces.j1] at h, fun _ _ _ _ _ _ _ _ _ r h => by simp [marshallinglaw06_LexPlaces.j2] at h, fun _ _ _ _ _ _ _ _ r h => by simp [marshallinglaw06_LexPlaces.l1] at h⟩
  | k + 1 => by
    obtain ⟨ih0, ih1, ih2, ih3⟩ := marshallinglaw06_LexPlaces.mono_l k
    refine ⟨?_, ?_, ?_, ?_⟩
    · intro y0 y1 y2 y3 y4 y5
      unfold marshallinglaw06_LexPlaces.l0
      repeat' first
      | (with_reducible exact ih0 _ _ _ _ _ _)
      | (with_reducible exact ih1 _ _ _ _ _ _ _ _)
      | (with_reducible exact ih2 _ _ _ _ _ _ _ _ _)
      | (with_reducible exact ih3 _ _ _ _ _ _ _ _)
      | (with_reducible exact lex_All.mono _ _)
      | (with_reducible exact marshallinglaw06_examples.mono _)
      | (with_reducible exact marshallinglaw06_words.mono _ _ _)
      | (with_reducible exact LeO.refl _)
      | (with_reducible exact LeO.none _)
      | (with_reducible refine LeO.ite ?_ ?_)
      | (with_reducible refine LeO.bind ?_ (fun _ => ?_))
      | exact ih0 _ _ _ _ _ _
      | exact ih1 _ _ _ _ _ _ _ _
      | exact ih2 _ _ _ _ _ _ _ _ _
      | exact ih3 _ _ _ _ _ _ _ _
      | exact lex_All.mono _ _
      | exact marshallinglaw06_examples.mono _
      | exact marshallinglaw06_words.mono _ _ _
      | exact LeO.none _
      | refine LeO.ite ?_ ?_
      | refine LeO.bind ?_ (fun _ => ?_)
    · intro y0 y1 y2 y3 y4 y5 y6 y7
      unfold marshallinglaw06_LexPlaces.j1
      repeat' first
      | (with_reducible exact ih0 _ _ _ _ _ _)
      | (with_reducible exact ih1 _ _ _ _ _ _ _ _)
      | (with_reducible exact ih2 _ _ _ _ _ _ _ _ _)
      | (with_reducible exact ih3 _ _ _ _ _ _ _ _)
      | (with_reducible exact lex_All.mono _ _)
      | (with_reducible exact marshallinglaw06_examples.mono _)
      | (with_reducible exact marshallinglaw06_words.mono _ _ _)
      | (with_reducible exact LeO.refl _)
      | (with_reducible exact LeO.none _)
      | (with_reducible refine LeO.ite ?_ ?_)
      | (with_reducible refine LeO.bind ?_ (fun _ => ?_))
      | exact ih0 _ _ _ _ _ _
      | exact ih1 _ _ _ _ _ _ _ _
      | exact ih2 _ _ _ _ _ _ _ _ _
      | exact ih3 _ _ _ _ _ _ _ _
      | exact lex_All.mono _ _
      | exact marshallinglaw06_examples.mono _
      | exact marshallinglaw06_words.mono _ _ _
      | exact LeO.none _
      | refine LeO.ite ?_ ?_
      | refine LeO.bind ?_ (fun _ => ?_)
    · intro y0 y1 y2 y3 y4 y5 y6 y7 y8
      unfold marshallinglaw06_LexPlaces.j2
      repeat' first
      | (with_reducible exact ih0 _ _ _ _ _ _)
      | (with_reducible exact ih1 _ _ _ _ _ _ _ _)
      | (with_reducible exact ih2 _ _ _ _ _ _ _ _ _)
      | (with_reducible exact ih3 _ _ _ _ _ _ _ _)
      | (with_reducible exact lex_All.mono _ _)
      | (with_reducible exact marshallinglaw06_examples.mono _)
      | (with_reducible exact marshallinglaw06_words.mono _ _ _)
      | (with_reducible exact LeO.refl _)
      | (with_reducible exact LeO.none _)
      | (with_reducible refine LeO.ite ?_ ?_)
      | (with_reducible refine LeO.bind ?_ (fun _ => ?_))
      | exact ih0 _ _ _ _ _ _
      | exact ih1 _ _ _ _ _ _ _ _
      | exact ih2 _ _ _ _ _ _ _ _ _
      | exact ih3 _ _ _ _ _ _ _ _
      | exact lex_All.mono _ _
      | exact marshallinglaw06_examples.mono _
      | exact marshallinglaw06_words.mono _ _ _
      | exact LeO.none _
      | refine LeO.ite ?_ ?_
      | refine LeO.bind ?_ (fun _ => ?_)
    · intro y0 y1 y2 y3 y4 y5 y6 y7
      unfold marshallinglaw06_LexPlaces.l1
      repeat' first
      | (with_reducible exact ih0 _ _ _ _ _ _)
      | (with_reducible exact ih1 _ _ _ _ _ _ _ _)
      | (with_reducible exact ih2 _ _ _ _ _ _ _ _ _)
      | (with_reducible exact ih3 _ _ _ _ _ _ _ _)
      | (with_reducible exact lex_All.mono _ _)
      | (with_reducible exact marshallinglaw06_examples.mono _)
      | (with_reducible exact marshallinglaw06_words.mono _ _ _)
      | (with_reducible exact LeO.refl _)
      | (with_reducible exact LeO.none _)
      | (with_reducible refine LeO.ite ?_ ?_)
      | (with_reducible refine LeO.bind ?_ (fun _ => ?_))
      | exact ih0 _ _ _ _ _ _
      | exact ih1 _ _ _ _ _ _ _ _
      | exact ih2 _ _ _ _ _ _ _ _ _
      | exact ih3 _ _ _ _ _ _ _ _
      | exact lex_All.mono _ _
      | exact marshallinglaw06_examples.mono _
      | exact marshallinglaw06_words.mono _ _ _
      | exact LeO.none _
      | refine LeO.ite ?_ ?_
      | refine LeO.bind ?_ (fun _ => ?_)
theorem marshallinglaw06_LexPlaces.mono : ∀ a0 a1 k, LeO (marshallinglaw06_LexPlaces.f k a0 a1) (marshallinglaw06_LexPlaces.f (k + 1) a0 a1) := by
  intro a0 a1 k
  obtain ⟨ih0, ih1, ih2, ih3⟩ := marshallinglaw06_LexPlaces.mono_l k
  unfold marshallinglaw06_LexPlaces.f
  repeat' first
      | (with_reducible exact ih0 _ _ _ _ _ _)
      | (with_reducible exact ih1 _ _ _ _ _ _ _ _)
      | (with_reducible exact ih2 _ _ _ _ _ _ _ _ _)
      | (with_reducible exact ih3 _ _ _ _ _ _ _ _)
      | (with_reducible exact lex_All.mono _ _)
      | (with_reducible exact marshallinglaw06_examples.mono _)
      | (with_reducible exact marshallinglaw06_words.mono _ _ _)
      | (with_reducible exact LeO.refl _)
      | (with_reducible exact LeO.none _)
      | (with_reducible refine LeO.ite ?_ ?_)
      | (with_reducible refine LeO.bind ?_ (fun _ => ?_))
      | exact ih0 _ _ _ _ _ _
      | exact ih1 _ _ _ _ _ _ _ _
      | exact ih2 _ _ _ _ _ _ _ _ _
      | exact ih3 _ _ _ _ _ _ _ _
      | exact lex_All.mono _ _
      | exact marshallinglaw06_examples.mono _
      | exact marshallinglaw06_words.mono _ _ _
      | exact LeO.none _
      | refine LeO.ite ?_ ?_
      | refine LeO.bind ?_ (fun _ => ?_)
set_option maxHeartbeats 8000000 in
set_option maxRecDepth 100000 in
theorem marshallinglaw06_LexPlaces.calls (k : Nat) (A0 : Option Addr) (c0 : Nat) (l0 : List Int) (a1 : Bool) (r : Bool) (w : World) (hr0 : Kd.C (Kd.int .u8) w A0 l0.length l0) (hc0 : l0.length ≤ c0) (hG : Glob w) (h : marshallinglaw06_LexPlaces.f k l0 a1 = some r) :
    Calls Tryd.prog 5 #[.slice A0 l0.length c0, .bool a1] w fun e w' => e = .returned (.bool r) ∧ Below w.heap.size w w' := by
  have HG := Aside0.mk hG
  clear hG
  have HR0 := Aside0.mk hr0
  have HC0 := Aside0.mk hc0
  clear hr0 hc0
  have HB := Aside0.mk (Below.refl w.heap.size w)
  have H : ((marshallinglaw06_examples.f k).bind fun t250 => (if t250 = true then ((marshallinglaw06_words.f k l0 a1).bind fun t251 => ((lex_All.f k t251).bind fun bt252 => (if bt252.2.2 = 0 then (marshallinglaw06_LexPlaces.l0 k t250 t251 bt252.1 bt252.2.1 0 0) else (if bt252.2.1 ≥ 0 then (some (decide (bt252.2.1 < (mx (t251.size : Int) 1)))) else (some false))))) else (some false))) = some r := h
  clear h
  replace H := Option.bind_eq_some_iff.mp H
  obtain ⟨t250, A30, H⟩ := H
  replace H : (if t250 = true then ((marshallinglaw06_words.f k l0 a1).bind fun t251 => ((lex_All.f k t251).bind fun bt252 => (if bt252.2.2 = 0 then (marshallinglaw06_LexPlaces.l0 k t250 t251 bt252.1 bt252.2.1 0 0) else (if bt252.2.1 ≥ 0 then (some (decide (bt252.2.1 < (mx (t251.size : Int) 1)))) else (some false))))) else (some false)) = some r := H
  have A3 := Aside0.mk A30
  clear A30
  by_cases c4 : t250 = true
  · subst c4
    have H1 : ((marshallinglaw06_words.f k l0 a1).bind fun t251 => ((lex_All.f k t251).bind fun bt252 => (if bt252.2.2 = 0 then (marshallinglaw06_LexPlaces.l0 k true t251 bt252.1 bt252.2.1 0 0) else (if bt252.2.1 ≥ 0 then (some (decide (bt252.2.1 < (mx (t251.size : Int) 1)))) else (some false))))) = some r := by rw [if_pos rfl] at H; exact H
    clear H
    have H := H1
    clear H1
    replace H := Option.bind_eq_some_iff.mp H
    obtain ⟨t251, A50, H⟩ := H
    replace H : ((lex_All.f k t251).bind fun bt252 => (if bt252.2.2 = 0 then (marshallinglaw06_LexPlaces.l0 k true t251 bt252.1 bt252.2.1 0 0) else (if bt252.2.1 ≥ 0 then (some (decide (bt252.2.1 < (mx (t251.size : Int) 1)))) else (some false)))) = some r := H
    have A5 := Aside0.mk A50
    clear A50
    replace H := Option.bind_eq_some_iff.mp H
    obtain ⟨⟨t252, t253, t254⟩, A60, H⟩ := H
    replace H : (if t254 = 0 then (marshallinglaw06_LexPlaces.l0 k true t251 t252 t253 0 0) else (if t253 ≥ 0 then (some (decide (t253 < (mx (t251.size : Int) 1)))) else (some false))) = some r := H
    have A6 := Aside0.mk A60
    clear A60
    by_cases c7 : t254 = 0
    · rw [if_pos c7] at H
      have c7b0 : (t254 == 0) = true := beq_iff_eq.mpr c7
      have c7b1 : (t254 != 0) = false := bne_eq_false_iff_eq.mpr c7
      clear c7
      have H' := Aside0.mk H
      clear H
      go_enter Tryd.func5, Tryd.ntmps5
      go_wp2_with (first | ((with_reducible refine gate_callee (f := 9) rfl ?_); refine goesL_ (some 15) rfl rfl Tryd.func9 (by kernel_rfl) rfl #[] rfl (by (try simp only [List.map_toArray, List.map_cons, List.map_nil]); first | done | rfl | (simp only [List.length_drop, List.length_take]; rfl)) ?_; (with_reducible refine (marshallinglaw06_examples.calls k  true _ ?side1 A3.out).mono ?_); (case side1 => exact Glob.below HG.out (by repeat (first | (with_reducible first | exact HB.out | apply below_alloc | apply pw_below_drewN | apply below_drew1) | exact HB.out))); rintro e w8 ⟨rfl, hb⟩; refine ⟨_, rfl, ?_⟩; have n0_ := Aside0.mk (below_step (by repeat (first | (with_reducible first | exact HB.out | apply below_alloc | apply pw_below_drewN | apply below_drew1) | exact HB.out)) hb); clear HB; have HB := n0_; clear n0_; (try clear hb); (try clear hb2); (try clear hk); (try clear hi)) | ((with_reducible refine gate_callee (f := 10) rfl ?_); refine goesL_ (some 20) rfl rfl Tryd.func10 (by kernel_rfl) rfl #[.slice A0 l0.length c0, .bool a1] rfl (by (try simp only [List.map_toArray, List.map_cons, List.map_nil]); first | done | rfl | (simp only [List.length_drop, List.length_take]; rfl)) ?_; (with_reducible refine (marshallinglaw06_words.calls k _ _ l0 a1 t251 _ ?side1 ?side2 A5.out).mono ?_); (case side1 => repeat (first | exact (Kd.C_below HR0.out HB.out) | (with_reducible refine Kd.C_alloc ?_ _) | (with_reducible refine Kd.C_drewN ?_ _) | (with_reducible refine Kd.C_drew ?_))); (case side2 => exact HC0.out); rintro e w9 ⟨rfl, hb⟩; refine ⟨_, rfl, ?_⟩; have n0_ := Aside0.mk (below_step (by repeat (first | (with_reducible first | exact HB.out | apply below_alloc | apply pw_below_drewN | apply below_drew1) | exact HB.out)) hb); clear HB; have HB := n0_; clear n0_; (try clear hb); (try clear hb2); (try clear hk); (try clear hi)) | ((with_reducible refine gate_callee (f := 11) rfl ?_); refine goesL_ (some 23) rfl rfl Tryd.func11 (by kernel_rfl) rfl #[.string t251] rfl (by (try simp only [List.map_toArray, List.map_cons, List.map_nil]); first | done | rfl | (simp only [List.length_drop, List.length_take]; rfl)) ?_; (with_reducible refine (lex_All.calls k t251 t252 t253 t254 _ ?side1 A6.out).mono ?_); (case side1 => exact Glob.below HG.out (by repeat (first | (with_reducible first | exact HB.out | apply below_alloc | apply pw_below_drewN | apply below_drew1) | exact HB.out))); rintro e w10 ⟨v255, rfl, ho0, hb⟩; refine ⟨_, rfl, ?_⟩; have n0_ := Aside0.mk (Kd.R_lower ho0 (below_size (by repeat (first | (with_reducible first | exact HB.out | apply below_alloc | apply pw_below_drewN | apply below_drew1) | exact HB.out)))); have n1_ := Aside0.mk (below_step (by repeat (first | (with_reducible first | exact HB.out | apply below_alloc | apply pw_below_drewN | apply below_drew1) | exact HB.out)) hb); clear HB; have HO256 := n0_; have HB := n1_; clear n0_ n1_; (try clear hb); (try clear hb2); (try clear hk); (try clear hi); (try clear ho0)))
      go_loopg [10, 11] k (fun kq v10 v11 w' => ∃ (x10_1 : Int) (x11_1 : Int), v10 = .int .i64 x10_1 ∧ v11 = .int .i64 x11_1 ∧ Aside0 (marshallinglaw06_LexPlaces.l0 kq true t251 t252 t253 x10_1 x11_1 = some r) ∧ Aside0 (kq ≤ k) ∧ Aside0 (Kd.R k40 40 w' w.heap.size (fun _ => True) v255 t252) ∧ Aside0 (Below w.heap.size w w'))
      case atStart => exact ⟨(0), (0), (by first | rfl | (simp; done) | (simp [*]; done)), (by first | rfl | (simp; done) | (simp [*]; done)), H', ⟨Nat.le_refl _⟩, ⟨by (with_reducible repeat (first | apply Kd.R_alloc | apply Kd.R_drewN | apply Kd.R_drew)); exact HO256.out⟩, ⟨by repeat (first | (with_reducible first | exact HB.out | apply below_alloc | apply pw_below_drewN | apply below_drew1) | exact HB.out)⟩⟩
      case round =>
        clear H'
        try clear c1
        try clear p2
        try clear c4
        try clear c5
        try clear c7
        try clear c7b0
        try clear c7b1
        try clear c9
        try clear c10
        obtain ⟨x10_1, x11_1, rfl, rfl, HA, HK1, HO_7, HB⟩ := hrel
        cases gk with
        | zero => exact absurd HA.out (by simp [marshallinglaw06_LexPlaces.l0])
        | succ k1 =>
          have H := HA.out
          clear HA
          simp only [marshallinglaw06_LexPlaces.l0] at H
          by_cases c11 : x11_1 ≤ (t252.length : Int)
          · rw [if_pos c11] at H
            have c11b0 : decide (x11_1 ≤ (t252.length : Int)) = true := decide_eq_true c11
            clear c11
            have HC12 := Aside0.mk H
            clear H
            obtain ⟨Ao13, co13, eo13⟩ := Kd.R_slice HO_7.out
            subst eo13
            go_upto_if 52 with (fail)
            go_cut [12, 13] (fun v12 v13 wc => ∃ (kq : Nat) (x12_11 : Int) (x13_11 : ByteArray), v12 = .int .i64 x12_11 ∧ v13 = .string x13_11 ∧ Aside0 (marshallinglaw06_LexPlaces.j1 kq true t251 t252 t253 x10_1 x11_1 x12_11 x13_11 = some r) ∧ Aside0 (kq ≤ k1) ∧ Aside0 (Kd.R k40 40 wc w.heap.size (fun _ => True) (.slice Ao13 t252.length co13) t252) ∧ Aside0 (Below w.heap.size w wc))
            case first =>
              have H := HC12.out
              clear HC12
              by_cases c14 : x11_1 < (t252.length : Int)
              · rw [if_pos c14] at H
                have c14b0 : decide (x11_1 < (t252.length : Int)) = true := decide_eq_true c14
                clear c14
                (first | rw [c14b0] | (simp only [i64_w, i32_w]; rw [c14b0]) | skip)
                by_cases c15 : 0 ≤ x11_1
                · rw [if_pos c15] at H
                  have c15b0 : decide (0 ≤ x11_1) = true := decide_eq_true c15
                  clear c15
                  by_cases c16 : ((rd_T40 t252 x11_1).f0) = 3
                  · rw [if_pos c16] at H
                    have c16b0 : (((rd_T40 t252 x11_1).f0) == 3) = true := beq_iff_eq.mpr c16
                    have c16b1 : (((rd_T40 t252 x11_1).f0) != 3) = false := bne_eq_false_iff_eq.mpr c16
                    clear c16
                    by_cases c17 : 1 + ((rd_T40 t252 x11_1).f1).size ≤ 9223372036854775807
                    · rw [if_pos c17] at H
                      have c17b0 := eq_true c17
                      have c17b1 : decide (1 + ((rd_T40 t252 x11_1).f1).size ≤ 9223372036854775807) = true := decide_eq_true c17
                      try have c17b2 : (9223372036854775807 < 1 + ((rd_T40 t252 x11_1).f1).size) = False := eq_false (Nat.not_lt.2 c17)
                      by_cases c18 : ((⟨#[39]⟩ : ByteArray) ++ ((rd_T40 t252 x11_1).f1)).size + 1 ≤ 9223372036854775807
                      · rw [if_pos c18] at H
                        have c18b0 := eq_true c18
                        have c18b1 : decide (((⟨#[39]⟩ : ByteArray) ++ ((rd_T40 t252 x11_1).f1)).size + 1 ≤ 9223372036854775807) = true := decide_eq_true c18
                        try have c18b2 : (9223372036854775807 < ((⟨#[39]⟩ : ByteArray) ++ ((rd_T40 t252 x11_1).f1)).size + 1) = False := eq_false (Nat.not_lt.2 c18)
                        try have c18b3 : (9223372036854775807 < 1 + ((rd_T40 t252 x11_1).f1).size + 1) = False := eq_false (Nat.not_lt.2 (by have h_ := c18; simp only [ByteArray.size_append] at h_; exact h_))
                        have H' := Aside0.mk H
                        clear H
                        have p257 : 0 ≤ (x11_1 : Int) := of_decide_eq_true (by first | (with_reducible assumption) | assumption)
                        have q257 : x11_1 < (t252.length : Int) := of_decide_eq_true (by first | (with_reducible assumption) | assumption)
                        obtain ⟨ad257, e257, hx257_0, hx257_1, hx257_2, hx257_3⟩ := at_T40 (Kd.R_reads' HO_7.out).2.2 x11_1 p257 q257
                        cases e257
                        replace p257 := eq_true p257
                        replace q257 := eq_true q257
                        have p258 : 0 ≤ (x11_1 : Int) := of_decide_eq_true (by first | (with_reducible assumption) | assumption)
                        have q258 : x11_1 < (t252.length : Int) := of_decide_eq_true (by first | (with_reducible assumption) | assumption)
                        obtain ⟨ad258, e258, hx258_0, hx258_1, hx258_2, hx258_3⟩ := at_T40 (Kd.R_reads' HO_7.out).2.2 x11_1 p258 q258
                        obtain rfl : ad257 = ad258 := (by injection e258)
                        replace p258 := eq_true p258
                        replace q258 := eq_true q258
                        have p259 : 0 ≤ (x11_1 : Int) := of_decide_eq_true (by first | (with_reducible assumption) | assumption)
                        have q259 : x11_1 < (t252.length : Int) := of_decide_eq_true (by first | (with_reducible assumption) | assumption)
                        obtain ⟨ad259, e259, hx259_0, hx259_1, hx259_2, hx259_3⟩ := at_T40 (Kd.R_reads' HO_7.out).2.2 x11_1 p259 q259
                        obtain rfl : ad257 = ad259 := (by injection e259)
                        replace p259 := eq_true p259
                        replace q259 := eq_true q259
                        go_wp2
                        go_meet
                        case rel => exact ⟨_, ((rd_T40 t252 x11_1).f3), (((⟨#[39]⟩ : ByteArray) ++ ((rd_T40 t252 x11_1).f1)) ++ (⟨#[39]⟩ : ByteArray)), (by first | rfl | (simp; done) | (simp [*]; done)), (by first | rfl | (simp; done) | (simp [*]; done)), H', ⟨by have := HK1.out; first | omega | exact Nat.le_refl _⟩, ⟨by (with_reducible repeat (first | apply Kd.R_alloc | apply Kd.R_drewN | apply Kd.R_drew)); exact HO_7.out⟩, ⟨by repeat (first | (with_reducible first | exact HB.out | apply below_alloc | apply pw_below_drewN | apply below_drew1) | exact HB.out)⟩⟩
                      · rw [if_neg c18] at H
                        exact absurd H (by simp)
                    · rw [if_neg c17] at H
                      exact absurd H (by simp)
                  · rw [if_neg c16] at H
                    have c16b0 : (((rd_T40 t252 x11_1).f0) == 3) = false := beq_eq_false_iff_ne.mpr c16
                    have c16b1 : (((rd_T40 t252 x11_1).f0) != 3) = true := bne_iff_ne.mpr c16
                    have H' := Aside0.mk H
                    clear H
                    have p257 : 0 ≤ (x11_1 : Int) := of_decide_eq_true (by first | (with_reducible assumption) | assumption)
                    have q257 : x11_1 < (t252.length : Int) := of_decide_eq_true (by first | (with_reducible assumption) | assumption)
                    obtain ⟨ad257, e257, hx257_0, hx257_1, hx257_2, hx257_3⟩ := at_T40 (Kd.R_reads' HO_7.out).2.2 x11_1 p257 q257
                    cases e257
                    replace p257 := eq_true p257
                    replace q257 := eq_true q257
                    have p258 : 0 ≤ (x11_1 : Int) := of_decide_eq_true (by first | (with_reducible assumption) | assumption)
                    have q258 : x11_1 < (t252.length : Int) := of_decide_eq_true (by first | (with_reducible assumption) | assumption)
                    obtain ⟨ad258, e258, hx258_0, hx258_1, hx258_2, hx258_3⟩ := at_T40 (Kd.R_reads' HO_7.out).2.2 x11_1 p258 q258
                    obtain rfl : ad257 = ad258 := (by injection e258)
                    replace p258 := eq_true p258
                    replace q258 := eq_true q258
                    have p259 : 0 ≤ (x11_1 : Int) := of_decide_eq_true (by first | (with_reducible assumption) | assumption)
                    have q259 : x11_1 < (t252.length : Int) := of_decide_eq_true (by first | (with_reducible assumption) | assumption)
                    obtain ⟨ad259, e259, hx259_0, hx259_1, hx259_2, hx259_3⟩ := at_T40 (Kd.R_reads' HO_7.out).2.2 x11_1 p259 q259
                    obtain rfl : ad257 = ad259 := (by injection e259)
                    replace p259 := eq_true p259
                    replace q259 := eq_true q259
                    go_wp2
                    go_meet
                    case rel => exact ⟨_, ((rd_T40 t252 x11_1).f3), ((rd_T40 t252 x11_1).f1), (by first | rfl | (simp; done) | (simp [*]; done)), (by first | rfl | (simp; done) | (simp [*]; done)), H', ⟨by have := HK1.out; first | omega | exact Nat.le_refl _⟩, ⟨by (with_reducible repeat (first | apply Kd.R_alloc | apply Kd.R_drewN | apply Kd.R_drew)); exact HO_7.out⟩, ⟨by repeat (first | (with_reducible first | exact HB.out | apply below_alloc | apply pw_below_drewN | apply below_drew1) | exact HB.out)⟩⟩
                · rw [if_neg c15] at H
                  exact absurd H (by simp)
              · rw [if_neg c14] at H
                have c14b0 : decide (x11_1 < (t252.length : Int)) = false := decide_eq_false c14
                clear c14
                (first | rw [c14b0] | (simp only [i64_w, i32_w]; rw [c14b0]) | skip)
                have H' := Aside0.mk H
                clear H
                go_wp2
                go_meet
                case rel => exact ⟨_, ((t251.size : Int)), ((⟨#[]⟩ : ByteArray)), (by first | rfl | (simp; done) | (simp [*]; done)), (by first | rfl | (simp; done) | (simp [*]; done)), H', ⟨by have := HK1.out; first | omega | exact Nat.le_refl _⟩, ⟨by (with_reducible repeat (first | apply Kd.R_alloc | apply Kd.R_drewN | apply Kd.R_drew)); exact HO_7.out⟩, ⟨by repeat (first | (with_reducible first | exact HB.out | apply below_alloc | apply pw_below_drewN | apply below_drew1) | exact HB.out)⟩⟩
            case rest =>
              clear HC12
              try clear c1
              try clear p2
              try clear q2
              try clear hx2
              try clear c4
              try clear c5
              try clear c7
              try clear c7b0
              try clear c7b1
              try clear c9
              try clear c10
              try clear c11
              try clear c11b0
              try clear c14
              try clear c14b0
              try clear c15
              try clear c15b0
              try clear c16
              try clear c16b0
              try clear c16b1
              try clear c17
              try clear c17b0
              try clear c17b1
              try clear c17b2
              try clear c18
              try clear c18b0
              try clear c18b1
              try clear c18b2
              try clear hx257_0
              try clear hx257_1
              try clear hx257_2
              try clear hx257_3
              try clear hx258_0
              try clear hx258_1
              try clear hx258_2
              try clear hx258_3
              try clear hx259_0
              try clear hx259_1
              try clear hx259_2
              try clear hx259_3
              try clear p2
              try clear p257
              try clear p258
              try clear p259
              try clear q257
              try clear q258
              try clear q259
              obtain ⟨kq, x12_11, x13_11, rfl, rfl, HA, HJ11, HO_7, HB⟩ := hcut
              cases kq with
              | zero => exact absurd HA.out (by simp [marshallinglaw06_LexPlaces.j1])
              | succ kj11 =>
                have H := HA.out
                clear HA
                simp only [marshallinglaw06_LexPlaces.j1] at H
                have HC19 := Aside0.mk H
                clear H
                go_upto_region 19 with (fail)
                go_cut [94] (fun v94 wc => ∃ (kq : Nat) (x94_18 : Bool), v94 = .bool x94_18 ∧ Aside0 (marshallinglaw06_LexPlaces.j2 kq true t251 t252 t253 x10_1 x11_1 x12_11 x13_11 x94_18 = some r) ∧ Aside0 (kq ≤ kj11) ∧ Aside0 (Kd.R k40 40 wc w.heap.size (fun _ => True) (.slice Ao13 t252.length co13) t252) ∧ Aside0 (Below w.heap.size w wc))
                case first =>
                  have H := HC19.out
                  clear HC19
                  by_cases c20 : x12_11 < x10_1
                  · rw [if_pos c20] at H
                    have c20b0 : decide (x12_11 < x10_1) = true := decide_eq_true c20
                    clear c20
                    (first | rw [c20b0] | (simp only [i64_w, i32_w]; rw [c20b0]) | skip)
                    have H' := Aside0.mk H
                    clear H
                    go_wp2
                    go_meet
                    case rel => exact ⟨_, (true), (by first | rfl | (simp; done) | (simp [*]; done)), H', ⟨by have := HK1.out; have := HJ11.out; first | omega | exact Nat.le_refl _⟩, ⟨by (with_reducible repeat (first | apply Kd.R_alloc | apply Kd.R_drewN | apply Kd.R_drew)); exact HO_7.out⟩, ⟨by repeat (first | (with_reducible first | exact HB.out | apply below_alloc | apply pw_below_drewN | apply below_drew1) | exact HB.out)⟩⟩
                  · rw [if_neg c20] at H
                    have c20b0 : decide (x12_11 < x10_1) = false := decide_eq_false c20
                    clear c20
                    (first | rw [c20b0] | (simp only [i64_w, i32_w]; rw [c20b0]) | skip)
                    by_cases c21 : (wrap64 (x12_11 + (x13_11.size : Int))) > (t251.size : Int)
                    · rw [if_pos c21] at H
                      have c21b0 : decide ((t251.size : Int) < (wrap64 (x12_11 + (x13_11.size : Int)))) = true := decide_eq_true c21
                      clear c21
                      have H' := Aside0.mk H
                      clear H
                      go_wp2
                      go_meet
                      case rel => exact ⟨_, (true), (by first | rfl | (simp; done) | (simp [*]; done)), H', ⟨by have := HK1.out; have := HJ11.out; first | omega | exact Nat.le_refl _⟩, ⟨by (with_reducible repeat (first | apply Kd.R_alloc | apply Kd.R_drewN | apply Kd.R_drew)); exact HO_7.out⟩, ⟨by repeat (first | (with_reducible first | exact HB.out | apply below_alloc | apply pw_below_drewN | apply below_drew1) | exact HB.out)⟩⟩
                    · rw [if_neg c21] at H
                      have c21b0 : decide ((t251.size : Int) < (wrap64 (x12_11 + (x13_11.size : Int)))) = false := decide_eq_false c21
                      clear c21
                      by_cases c22 : 0 ≤ x12_11
                      · rw [if_pos c22] at H
                        have c22b0 := eq_true c22
                        have c22b1 : decide (0 ≤ x12_11) = true := decide_eq_true c22
                        clear c22
                        by_cases c23 : x12_11 ≤ (wrap64 (x12_11 + (x13_11.size : Int)))
                        · rw [if_pos c23] at H
                          have c23b0 := eq_true c23
                          have c23b1 : decide (x12_11 ≤ (wrap64 (x12_11 + (x13_11.size : Int)))) = true := decide_eq_true c23
                          (try have c23v0 : (x12_11 ≤ (IntKind.i64.wrap (x12_11 + (x13_11.size : Int)))) = True := by have h_ := c23; first | exact eq_true h_ | (simp only [i64_w, i32_w]; exact eq_true h_))
                          by_cases c24 : (wrap64 (x12_11 + (x13_11.size : Int))) ≤ (t251.size : Int)
                          · rw [if_pos c24] at H
                            have c24b0 := eq_true c24
                            have c24b1 : decide ((wrap64 (x12_11 + (x13_11.size : Int))) ≤ (t251.size : Int)) = true := decide_eq_true c24
                            (try have c24v0 : ((IntKind.i64.wrap (x12_11 + (x13_11.size : Int))) ≤ (t251.size : Int)) = True := by have h_ := c24; first | exact eq_true h_ | (simp only [i64_w, i32_w]; exact eq_true h_))
                            have H' := Aside0.mk H
                            clear H
                            go_wp2
                            go_meet
                            case rel => exact ⟨_, (((t251.extract (x12_11 : Int).toNat ((wrap64 (x12_11 + (x13_11.size : Int))) : Int).toNat).toList != x13_11.toList)), (by first | rfl | (simp; done) | (simp [*]; done)), H', ⟨by have := HK1.out; have := HJ11.out; first | omega | exact Nat.le_refl _⟩, ⟨by (with_reducible repeat (first | apply Kd.R_alloc | apply Kd.R_drewN | apply Kd.R_drew)); exact HO_7.out⟩, ⟨by repeat (first | (with_reducible first | exact HB.out | apply below_alloc | apply pw_below_drewN | apply below_drew1) | exact HB.out)⟩⟩
                          · rw [if_neg c24] at H
                            exact absurd H (by simp)
                        · rw [if_neg c23] at H
                          exact absurd H (by simp)
                      · rw [if_neg c22] at H
                        exact absurd H (by simp)
                case rest =>
                  clear HC19
                  try clear c1
                  try clear c2
                  try clear p2
                  try clear q2
                  try clear hx2
                  try clear c4
                  try clear c5
                  try clear p6
                  try clear c7
                  try clear c7b0
                  try clear c7b1
                  try clear c9
                  try clear c10
                  try clear c11
                  try clear c11b0
                  try clear c14
                  try clear c14b0
                  try clear c15
                  try clear c15b0
                  try clear c16
                  try clear c16b0
                  try clear c16b1
                  try clear c17
                  try clear c17b0
                  try clear c17b1
                  try clear c17b2
                  try clear c18
                  try clear c18b0
                  try clear c18b1
                  try clear c18b2
                  try clear c20
                  try clear c20b0
                  try clear c21
                  try clear c21b0
                  try clear c22
                  try clear c22b0
                  try clear c22b1
                  try clear c23
                  try clear c23b0
                  try clear c23b1
                  try clear c24
                  try clear c24b0
                  try clear c24b1
                  try clear hx257_0
                  try clear hx257_1
                  try clear hx257_2
                  try clear hx257_3
                  try clear hx258_0
                  try clear hx258_1
                  try clear hx258_2
                  try clear hx258_3
                  try clear hx259_0
                  try clear hx259_1
                  try clear hx259_2
                  try clear hx259_3
                  try clear p2
                  try clear p257
                  try clear p258
                  try clear p259
                  try clear q2
                  try clear q257
                  try clear q258
                  try clear q259
                  obtain ⟨kq, x94_18, rfl, HA, HJ18, HO_7, HB⟩ := hcut
                  cases kq with
                  | zero => exact absurd HA.out (by simp [marshallinglaw06_LexPlaces.j2])
                  | succ kj18 =>
                    have H := HA.out
                    clear HA
                    simp only [marshallinglaw06_LexPlaces.j2] at H
                    by_cases c25 : x94_18 = true
                    · subst c25
                      have H1 : (some false) = some r := by rw [if_pos rfl] at H; exact H
                      clear H
                      have H := H1
                      clear H1
                      obtain rfl := Option.some.inj H
                      go_wp2
                      go_ret
                      exact ⟨by first | rfl | (simp [errW_none, errW_some] <;> rfl) | (simp [*, errW_none, errW_some] <;> rfl), by repeat (first | (with_reducible first | exact HB.out | apply below_alloc | apply pw_below_drewN | apply below_drew1) | exact HB.out)⟩
                    · replace c25 := Bool.eq_false_iff.mpr c25
                      subst c25
                      have H1 : (marshallinglaw06_LexPlaces.l1 kj18 true t251 t252 t253 x11_1 x12_11 x13_11 x10_1) = some r := by rw [if_neg (show ¬ (false = true) by decide)] at H; exact H
                      clear H
                      have H := H1
                      clear H1
                      have H' := Aside0.mk H
                      clear H
                      go_wp2
                      go_loopg [14] kj18 (fun kq v14 w' => ∃ (x14_4 : Int), v14 = .int .i64 x14_4 ∧ Aside0 (marshallinglaw06_LexPlaces.l1 kq true t251 t252 t253 x11_1 x12_11 x13_11 x14_4 = some r) ∧ Aside0 (kq ≤ kj18) ∧ Aside0 (Kd.R k40 40 w' w.heap.size (fun _ => True) (.slice Ao13 t252.length co13) t252) ∧ Aside0 (Below w.heap.size w w'))
                      case atStart => exact ⟨(x10_1), (by first | rfl | (simp; done) | (simp [*]; done)), H', ⟨Nat.le_refl _⟩, ⟨by (with_reducible repeat (first | apply Kd.R_alloc | apply Kd.R_drewN | apply Kd.R_drew)); exact HO_7.out⟩, ⟨by repeat (first | (with_reducible first | exact HB.out | apply below_alloc | apply pw_below_drewN | apply below_drew1) | exact HB.out)⟩⟩
                      case round =>
                        clear H'
                        try clear c1
                        try clear c2
                        try clear p2
                        try clear q2
                        try clear hx2
                        try clear c4
                        try clear c5
                        try clear p6
                        try clear c7
                        try clear c7b0
                        try clear c7b1
                        try clear c9
                        try clear c10
                        try clear c11
                        try clear c11b0
                        try clear c14
                        try clear c14b0
                        try clear c15
                        try clear c15b0
                        try clear c16
                        try clear c16b0
                        try clear c16b1
                        try clear c17
                        try clear c17b0
                        try clear c17b1
                        try clear c17b2
                        try clear c18
                        try clear c18b0
                        try clear c18b1
                        try clear c18b2
                        try clear c20
                        try clear c20b0
                        try clear c21
                        try clear c21b0
                        try clear c22
                        try clear c22b0
                        try clear c22b1
                        try clear c23
                        try clear c23b0
                        try clear c23b1
                        try clear c24
                        try clear c24b0
                        try clear c24b1
                        try clear c25
                        try clear p25
                        try clear q25
                        try clear hx25
                        try clear hx257_0
                        try clear hx257_1
                        try clear hx257_2
                        try clear hx257_3
                        try clear hx258_0
                        try clear hx258_1
                        try clear hx258_2
                        try clear hx258_3
                        try clear hx259_0
                        try clear hx259_1
                        try clear hx259_2
                        try clear hx259_3
                        try clear p2
                        try clear p257
                        try clear p258
                        try clear p259
                        try clear p6
                        try clear q2
                        try clear q257
                        try clear q258
                        try clear q259
                        obtain ⟨x14_4, rfl, HA, HK4, HO_7, HB⟩ := hrel
                        cases gk with
                        | zero => exact absurd HA.out (by simp [marshallinglaw06_LexPlaces.l1])
                        | succ k4 =>
                          have H := HA.out
                          clear HA
                          simp only [marshallinglaw06_LexPlaces.l1] at H
                          by_cases c26 : x14_4 < x12_11
                          · rw [if_pos c26] at H
                            have c26b0 : decide (x14_4 < x12_11) = true := decide_eq_true c26
                            clear c26
                            by_cases c27 : 0 ≤ x14_4
                            · rw [if_pos c27] at H
                              have c27b0 : decide (0 ≤ x14_4) = true := decide_eq_true c27
                              clear c27
                              by_cases c28 : x14_4 < (t251.size : Int)
                              · rw [if_pos c28] at H
                                have c28b0 : decide (x14_4 < (t251.size : Int)) = true := decide_eq_true c28
                                clear c28
                                by_cases c30 : (bt t251 x14_4) = 32
                                · rw [if_pos c30] at H
                                  have c30b0 : ((bt t251 x14_4) == 32) = true := beq_iff_eq.mpr c30
                                  have c30b1 : ((bt t251 x14_4) != 32) = false := bne_eq_false_iff_eq.mpr c30
                                  clear c30
                                  have H' := Aside0.mk H
                                  clear H
                                  have p29 : 0 ≤ (x14_4 : Int) := of_decide_eq_true (by first | (with_reducible assumption) | assumption)
                                  have q29 : x14_4 < (t251.size : Int) := of_decide_eq_true (by first | (with_reducible assumption) | assumption)
                                  have hx29 := bt_at t251 x14_4
                                  replace p29 := eq_true p29
                                  replace q29 := eq_true q29
                                  go_wp2
                                  go_roundg k4
                                  case measure => have := HK1.out; have := HJ11.out; have := HJ18.out; have := HK4.out; omega
                                  case rel => exact ⟨(wrap64 (x14_4 + 1)), (by first | rfl | (simp; done) | (simp [*]; done)), H', ⟨by have := HK1.out; have := HJ11.out; have := HJ18.out; have := HK4.out; omega⟩, ⟨by (with_reducible repeat (first | apply Kd.R_alloc | apply Kd.R_drewN | apply Kd.R_drew)); exact HO_7.out⟩, ⟨by repeat (first | (with_reducible first | exact HB.out | apply below_alloc | apply pw_below_drewN | apply below_drew1) | exact HB.out)⟩⟩
                                · rw [if_neg c30] at H
                                  have c30b0 : ((bt t251 x14_4) == 32) = false := beq_eq_false_iff_ne.mpr c30
                                  have c30b1 : ((bt t251 x14_4) != 32) = true := bne_iff_ne.mpr c30
                                  by_cases c32 : (bt t251 x14_4) = 9
                                  · rw [if_pos c32] at H
                                    have c32b0 : ((bt t251 x14_4) == 9) = true := beq_iff_eq.mpr c32
                                    have c32b1 : ((bt t251 x14_4) != 9) = false := bne_eq_false_iff_eq.mpr c32
                                    clear c32
                                    have H' := Aside0.mk H
                                    clear H
                                    have p29 : 0 ≤ (x14_4 : Int) := of_decide_eq_true (by first | (with_reducible assumption) | assumption)
                                    have q29 : x14_4 < (t251.size : Int) := of_decide_eq_true (by first | (with_reducible assumption) | assumption)
                                    have hx29 := bt_at t251 x14_4
                                    replace p29 := eq_true p29
                                    replace q29 := eq_true q29
                                    have p31 : 0 ≤ (x14_4 : Int) := of_decide_eq_true (by first | (with_reducible assumption) | assumption)
                                    have q31 : x14_4 < (t251.size : Int) := of_decide_eq_true (by first | (with_reducible assumption) | assumption)
                                    have hx31 := bt_at t251 x14_4
                                    replace p31 := eq_true p31
                                    replace q31 := eq_true q31
                                    go_wp2
                                    go_roundg k4
                                    case measure => have := HK1.out; have := HJ11.out; have := HJ18.out; have := HK4.out; omega
                                    case rel => exact ⟨(wrap64 (x14_4 + 1)), (by first | rfl | (simp; done) | (simp [*]; done)), H', ⟨by have := HK1.out; have := HJ11.out; have := HJ18.out; have := HK4.out; omega⟩, ⟨by (with_reducible repeat (first | apply Kd.R_alloc | apply Kd.R_drewN | apply Kd.R_drew)); exact HO_7.out⟩, ⟨by repeat (first | (with_reducible first | exact HB.out | apply below_alloc | apply pw_below_drewN | apply below_drew1) | exact HB.out)⟩⟩
                                  · rw [if_neg c32] at H
                                    have c32b0 : ((bt t251 x14_4) == 9) = false := beq_eq_false_iff_ne.mpr c32
                                    have c32b1 : ((bt t251 x14_4) != 9) = true := bne_iff_ne.mpr c32
                                    by_cases c34 : (bt t251 x14_4) = 10
                                    · rw [if_pos c34] at H
                                      have c34b0 : ((bt t251 x14_4) == 10) = true := beq_iff_eq.mpr c34
                                      have c34b1 : ((bt t251 x14_4) != 10) = false := bne_eq_false_iff_eq.mpr c34
                                      clear c34
                                      have H' := Aside0.mk H
                                      clear H
                                      have p29 : 0 ≤ (x14_4 : Int) := of_decide_eq_true (by first | (with_reducible assumption) | assumption)
                                      have q29 : x14_4 < (t251.size : Int) := of_decide_eq_true (by first | (with_reducible assumption) | assumption)
                                      have hx29 := bt_at t251 x14_4
                                      replace p29 := eq_true p29
                                      replace q29 := eq_true q29
                                      have p31 : 0 ≤ (x14_4 : Int) := of_decide_eq_true (by first | (with_reducible assumption) | assumption)
                                      have q31 : x14_4 < (t251.size : Int) := of_decide_eq_true (by first | (with_reducible assumption) | assumption)
                                      have hx31 := bt_at t251 x14_4
                                      replace p31 := eq_true p31
                                      replace q31 := eq_true q31
                                      have p33 : 0 ≤ (x14_4 : Int) := of_decide_eq_true (by first | (with_reducible assumption) | assumption)
                                      have q33 : x14_4 < (t251.size : Int) := of_decide_eq_true (by first | (with_reducible assumption) | assumption)
                                      have hx33 := bt_at t251 x14_4
                                      replace p33 := eq_true p33
                                      replace q33 := eq_true q33
                                      go_wp2
                                      go_roundg k4
                                      case measure => have := HK1.out; have := HJ11.out; have := HJ18.out; have := HK4.out; omega
                                      case rel => exact ⟨(wrap64 (x14_4 + 1)), (by first | rfl | (simp; done) | (simp [*]; done)), H', ⟨by have := HK1.out; have := HJ11.out; have := HJ18.out; have := HK4.out; omega⟩, ⟨by (with_reducible repeat (first | apply Kd.R_alloc | apply Kd.R_drewN | apply Kd.R_drew)); exact HO_7.out⟩, ⟨by repeat (first | (with_reducible first | exact HB.out | apply below_alloc | apply pw_below_drewN | apply below_drew1) | exact HB.out)⟩⟩
                                    · rw [if_neg c34] at H
                                      have c34b0 : ((bt t251 x14_4) == 10) = false := beq_eq_false_iff_ne.mpr c34
                                      have c34b1 : ((bt t251 x14_4) != 10) = true := bne_iff_ne.mpr c34
                                      by_cases c36 : (bt t251 x14_4) = 13
                                      · rw [if_pos c36] at H
                                        have c36b0 : ((bt t251 x14_4) == 13) = true := beq_iff_eq.mpr c36
                                        have c36b1 : ((bt t251 x14_4) != 13) = false := bne_eq_false_iff_eq.mpr c36
                                        clear c36
                                        have H' := Aside0.mk H
                                        clear H
                                        have p29 : 0 ≤ (x14_4 : Int) := of_decide_eq_true (by first | (with_reducible assumption) | assumption)
                                        have q29 : x14_4 < (t251.size : Int) := of_decide_eq_true (by first | (with_reducible assumption) | assumption)
                                        have hx29 := bt_at t251 x14_4
                                        replace p29 := eq_true p29
                                        replace q29 := eq_true q29
                                        have p31 : 0 ≤ (x14_4 : Int) := of_decide_eq_true (by first | (with_reducible assumption) | assumption)
                                        have q31 : x14_4 < (t251.size : Int) := of_decide_eq_true (by first | (with_reducible assumption) | assumption)
                                        have hx31 := bt_at t251 x14_4
                                        replace p31 := eq_true p31
                                        replace q31 := eq_true q31
                                        have p33 : 0 ≤ (x14_4 : Int) := of_decide_eq_true (by first | (with_reducible assumption) | assumption)
                                        have q33 : x14_4 < (t251.size : Int) := of_decide_eq_true (by first | (with_reducible assumption) | assumption)
                                        have hx33 := bt_at t251 x14_4
                                        replace p33 := eq_true p33
                                        replace q33 := eq_true q33
                                        have p35 : 0 ≤ (x14_4 : Int) := of_decide_eq_true (by first | (with_reducible assumption) | assumption)
                                        have q35 : x14_4 < (t251.size : Int) := of_decide_eq_true (by first | (with_reducible assumption) | assumption)
                                        have hx35 := bt_at t251 x14_4
                                        replace p35 := eq_true p35
                                        replace q35 := eq_true q35
                                        go_wp2
                                        go_roundg k4
                                        case measure => have := HK1.out; have := HJ11.out; have := HJ18.out; have := HK4.out; omega
                                        case rel => exact ⟨(wrap64 (x14_4 + 1)), (by first | rfl | (simp; done) | (simp [*]; done)), H', ⟨by have := HK1.out; have := HJ11.out; have := HJ18.out; have := HK4.out; omega⟩, ⟨by (with_reducible repeat (first | apply Kd.R_alloc | apply Kd.R_drewN | apply Kd.R_drew)); exact HO_7.out⟩, ⟨by repeat (first | (with_reducible first | exact HB.out | apply below_alloc | apply pw_below_drewN | apply below_drew1) | exact HB.out)⟩⟩
                                      · rw [if_neg c36] at H
                                        have c36b0 : ((bt t251 x14_4) == 13) = false := beq_eq_false_iff_ne.mpr c36
                                        have c36b1 : ((bt t251 x14_4) != 13) = true := bne_iff_ne.mpr c36
                                        obtain rfl := Option.some.inj H
                                        have p29 : 0 ≤ (x14_4 : Int) := of_decide_eq_true (by first | (with_reducible assumption) | assumption)
                                        have q29 : x14_4 < (t251.size : Int) := of_decide_eq_true (by first | (with_reducible assumption) | assumption)
                                        have hx29 := bt_at t251 x14_4
                                        replace p29 := eq_true p29
                                        replace q29 := eq_true q29
                                        have p31 : 0 ≤ (x14_4 : Int) := of_decide_eq_true (by first | (with_reducible assumption) | assumption)
                                        have q31 : x14_4 < (t251.size : Int) := of_decide_eq_true (by first | (with_reducible assumption) | assumption)
                                        have hx31 := bt_at t251 x14_4
                                        replace p31 := eq_true p31
                                        replace q31 := eq_true q31
                                        have p33 : 0 ≤ (x14_4 : Int) := of_decide_eq_true (by first | (with_reducible assumption) | assumption)
                                        have q33 : x14_4 < (t251.size : Int) := of_decide_eq_true (by first | (with_reducible assumption) | assumption)
                                        have hx33 := bt_at t251 x14_4
                                        replace p33 := eq_true p33
                                        replace q33 := eq_true q33
                                        have p35 : 0 ≤ (x14_4 : Int) := of_decide_eq_true (by first | (with_reducible assumption) | assumption)
                                        have q35 : x14_4 < (t251.size : Int) := of_decide_eq_true (by first | (with_reducible assumption) | assumption)
                                        have hx35 := bt_at t251 x14_4
                                        replace p35 := eq_true p35
                                        replace q35 := eq_true q35
                                        go_wp2
                                        go_ret
                                        exact ⟨by first | rfl | (simp [errW_none, errW_some] <;> rfl) | (simp [*, errW_none, errW_some] <;> rfl), by repeat (first | (with_reducible first | exact HB.out | apply below_alloc | apply pw_below_drewN | apply below_drew1) | exact HB.out)⟩
                              · rw [if_neg c28] at H
                                exact absurd H (by simp)
                            · rw [if_neg c27] at H
                              exact absurd H (by simp)
                          · rw [if_neg c26] at H
                            have c26b0 : decide (x14_4 < x12_11) = false := decide_eq_false c26
                            clear c26
                            have H' := Aside0.mk H
                            clear H
                            go_wp2
                            go_roundg k4
                            case measure => have := HK1.out; have := HJ11.out; have := HJ18.out; have := HK4.out; omega
                            case rel => exact ⟨(wrap64 (x12_11 + (x13_11.size : Int))), (wrap64 (x11_1 + 1)), (by first | rfl | (simp; done) | (simp [*]; done)), (by first | rfl | (simp; done) | (simp [*]; done)), H', ⟨by have := HK1.out; have := HJ11.out; have := HJ18.out; have := HK4.out; omega⟩, ⟨by (with_reducible repeat (first | apply Kd.R_alloc | apply Kd.R_drewN | apply Kd.R_drew)); exact HO_7.out⟩, ⟨by repeat (first | (with_reducible first | exact HB.out | apply below_alloc | apply pw_below_drewN | apply below_drew1) | exact HB.out)⟩⟩
          · rw [if_neg c11] at H
            have c11b0 : decide (x11_1 ≤ (t252.length : Int)) = false := decide_eq_false c11
            clear c11
            have H1 : (some (t253 == (t251.size : Int))) = some r := by first | (rw [if_pos rfl] at H; exact H) | (rw [if_pos trivial] at H; exact H) | exact H | simpa using H
            clear H
            have H := H1
            clear H1
            obtain rfl := Option.some.inj H
            obtain ⟨Ao37, co37, eo37⟩ := Kd.R_slice HO_7.out
            subst eo37
            go_wp2
            go_ret
            exact ⟨by first | rfl | (simp [errW_none, errW_some] <;> rfl) | (simp [*, errW_none, errW_some] <;> rfl), by repeat (first | (with_reducible first | exact HB.out | apply below_alloc | apply pw_below_drewN | apply below_drew1) | exact HB.out)⟩
    · rw [if_neg c7] at H
      have c7b0 : (t254 == 0) = false := beq_eq_false_iff_ne.mpr c7
      have c7b1 : (t254 != 0) = true := bne_iff_ne.mpr c7
      by_cases c38 : t253 ≥ 0
      · rw [if_pos c38] at H
        have c38b0 : decide (0 ≤ t253) = true := decide_eq_true c38
        clear c38
        obtain ⟨ji39, hji39⟩ : ∃ j_ : Int, (mx (t251.size : Int) 1) = j_ := ⟨_, rfl⟩
        replace H : (some (decide (t253 < (ji39)))) = some r := by first | (rw [hji39] at H; exact H) | (simp only [hji39] at H ⊢; exact H)
        (try rw [hji39] at A3)
        (try rw [hji39] at A5)
        (try rw [hji39] at A6)
        (try (have hji39l : 1 ≤ ji39 := by (rw [← hji39]; unfold mx; (repeat' split) <;> omega)))
        (try (have hji39m : 0 ≤ ji39 := by omega))
        have hji39_ : (if (t251.size : Int) < 1 then 1 else (t251.size : Int)) = ji39 := hji39
        obtain rfl := Option.some.inj H
        go_enter Tryd.func5, Tryd.ntmps5
        go_wp2_with (first | ((with_reducible refine gate_callee (f := 9) rfl ?_); refine goesL_ (some 15) rfl rfl Tryd.func9 (by kernel_rfl) rfl #[] rfl (by (try simp only [List.map_toArray, List.map_cons, List.map_nil]); first | done | rfl | (simp only [List.length_drop, List.length_take]; rfl)) ?_; (with_reducible refine (marshallinglaw06_examples.calls k  true _ ?side1 A3.out).mono ?_); (case side1 => exact Glob.below HG.out (by repeat (first | (with_reducible first | exact HB.out | apply below_alloc | apply pw_below_drewN | apply below_drew1) | exact HB.out))); rintro e w40 ⟨rfl, hb⟩; refine ⟨_, rfl, ?_⟩; have n0_ := Aside0.mk (below_step (by repeat (first | (with_reducible first | exact HB.out | apply below_alloc | apply pw_below_drewN | apply below_drew1) | exact HB.out)) hb); clear HB; have HB := n0_; clear n0_; (try clear hb); (try clear hb2); (try clear hk); (try clear hi)) | ((with_reducible refine gate_callee (f := 10) rfl ?_); refine goesL_ (some 20) rfl rfl Tryd.func10 (by kernel_rfl) rfl #[.slice A0 l0.length c0, .bool a1] rfl (by (try simp only [List.map_toArray, List.map_cons, List.map_nil]); first | done | rfl | (simp only [List.length_drop, List.length_take]; rfl)) ?_; (with_reducible refine (marshallinglaw06_words.calls k _ _ l0 a1 t251 _ ?side1 ?side2 A5.out).mono ?_); (case side1 => repeat (first | exact (Kd.C_below HR0.out HB.out) | (with_reducible refine Kd.C_alloc ?_ _) | (with_reducible refine Kd.C_drewN ?_ _) | (with_reducible refine Kd.C_drew ?_))); (case side2 => exact HC0.out); rintro e w41 ⟨rfl, hb⟩; refine ⟨_, rfl, ?_⟩; have n0_ := Aside0.mk (below_step (by repeat (first | (with_reducible first | exact HB.out | apply below_alloc | apply pw_below_drewN | apply below_drew1) | exact HB.out)) hb); clear HB; have HB := n0_; clear n0_; (try clear hb); (try clear hb2); (try clear hk); (try clear hi)) | ((with_reducible refine gate_callee (f := 11) rfl ?_); refine goesL_ (some 23) rfl rfl Tryd.func11 (by kernel_rfl) rfl #[.string t251] rfl (by (try simp only [List.map_toArray, List.map_cons, List.map_nil]); first | done | rfl | (simp only [List.length_drop, List.length_take]; rfl)) ?_; (with_reducible refine (lex_All.calls k t251 t252 t253 t254 _ ?side1 A6.out).mono ?_); (case side1 => exact Glob.below HG.out (by repeat (first | (with_reducible first | exact HB.out | apply below_alloc | apply pw_below_drewN | apply below_drew1) | exact HB.out))); rintro e w42 ⟨v255, rfl, ho0, hb⟩; refine ⟨_, rfl, ?_⟩; have n0_ := Aside0.mk (Kd.R_lower ho0 (below_size (by repeat (first | (with_reducible first | exact HB.out | apply below_alloc | apply pw_below_drewN | apply below_drew1) | exact HB.out)))); have n1_ := Aside0.mk (below_step (by repeat (first | (with_reducible first | exact HB.out | apply below_alloc | apply pw_below_drewN | apply below_drew1) | exact HB.out)) hb); clear HB; have HO256 := n0_; have HB := n1_; clear n0_ n1_; (try clear hb); (try clear hb2); (try clear hk); (try clear hi); (try clear ho0)))
        go_ret
        exact ⟨by first | rfl | (simp [errW_none, errW_some] <;> rfl) | (simp only [← hji39]; first | rfl | (simp [errW_none, errW_some] <;> rfl)) | (simp [*, errW_none, errW_some] <;> rfl), by repeat (first | (with_reducible first | exact HB.out | apply below_alloc | apply pw_below_drewN | apply below_drew1) | exact HB.out)⟩
      · rw [if_neg c38] at H
        have c38b0 : decide (0 ≤ t253) = false := decide_eq_false c38
        clear c38
        obtain rfl := Option.some.inj H
        go_enter Tryd.func5, Tryd.ntmps5
        go_wp2_with (first | ((with_reducible refine gate_callee (f := 9) rfl ?_); refine goesL_ (some 15) rfl rfl Tryd.func9 (by kernel_rfl) rfl #[] rfl (by (try simp only [List.map_toArray, List.map_cons, List.map_nil]); first | done | rfl | (simp only [List.length_drop, List.length_take]; rfl)) ?_; (with_reducible refine (marshallinglaw06_examples.calls k  true _ ?side1 A3.out).mono ?_); (case side1 => exact Glob.below HG.out (by repeat (first | (with_reducible first | exact HB.out | apply below_alloc | apply pw_below_drewN | apply below_drew1) | exact HB.out))); rintro e w43 ⟨rfl, hb⟩; refine ⟨_, rfl, ?_⟩; have n0_ := Aside0.mk (below_step (by repeat (first | (with_reducible first | exact HB.out | apply below_alloc | apply pw_below_drewN | apply below_drew1) | exact HB.out)) hb); clear HB; have HB := n0_; clear n0_; (try clear hb); (try clear hb2); (try clear hk); (try clear hi)) | ((with_reducible refine gate_callee (f := 10) rfl ?_); refine goesL_ (some 20) rfl rfl Tryd.func10 (by kernel_rfl) rfl #[.slice A0 l0.length c0, .bool a1] rfl (by (try simp only [List.map_toArray, List.map_cons, List.map_nil]); first | done | rfl | (simp only [List.length_drop, List.length_take]; rfl)) ?_; (with_reducible refine (marshallinglaw06_words.calls k _ _ l0 a1 t251 _ ?side1 ?side2 A5.out).mono ?_); (case side1 => repeat (first | exact (Kd.C_below HR0.out HB.out) | (with_reducible refine Kd.C_alloc ?_ _) | (with_reducible refine Kd.C_drewN ?_ _) | (with_reducible refine Kd.C_drew ?_))); (case side2 => exact HC0.out); rintro e w44 ⟨rfl, hb⟩; refine ⟨_, rfl, ?_⟩; have n0_ := Aside0.mk (below_step (by repeat (first | (with_reducible first | exact HB.out | apply below_alloc | apply pw_below_drewN | apply below_drew1) | exact HB.out)) hb); clear HB; have HB := n0_; clear n0_; (try clear hb); (try clear hb2); (try clear hk); (try clear hi)) | ((with_reducible refine gate_callee (f := 11) rfl ?_); refine goesL_ (some 23) rfl rfl Tryd.func11 (by kernel_rfl) rfl #[.string t251] rfl (by (try simp only [List.map_toArray, List.map_cons, List.map_nil]); first | done | rfl | (simp only [List.length_drop, List.length_take]; rfl)) ?_; (with_reducible refine (lex_All.calls k t251 t252 t253 t254 _ ?side1 A6.out).mono ?_); (case side1 => exact Glob.below HG.out (by repeat (first | (with_reducible first | exact HB.out | apply below_alloc | apply pw_below_drewN | apply below_drew1) | exact HB.out))); rintro e w45 ⟨v255, rfl, ho0, hb⟩; refine ⟨_, rfl, ?_⟩; have n0_ := Aside0.mk (Kd.R_lower ho0 (below_size (by repeat (first | (with_reducible first | exact HB.out | apply below_alloc | apply pw_below_drewN | apply below_drew1) | exact HB.out)))); have n1_ := Aside0.mk (below_step (by repeat (first | (with_reducible first | exact HB.out | apply below_alloc | apply pw_below_drewN | apply below_drew1) | exact HB.out)) hb); clear HB; have HO256 := n0_; have HB := n1_; clear n0_ n1_; (try clear hb); (try clear hb2); (try clear hk); (try clear hi); (try clear ho0)))
        go_ret
        exact ⟨by first | rfl | (simp [errW_none, errW_some] <;> rfl) | (simp [*, errW_none, errW_some] <;> rfl), by repeat (first | (with_reducible first | exact HB.out | apply below_alloc | apply pw_below_drewN | apply below_drew1) | exact HB.out)⟩
  · replace c4 := Bool.eq_false_iff.mpr c4
    subst c4
    have H1 : (some false) = some r := by rw [if_neg (show ¬ (false = true) by decide)] at H; exact H
    clear H
    have H := H1
    clear H1
    obtain rfl := Option.some.inj H
    go_enter Tryd.func5, Tryd.ntmps5
    go_wp2_with (first | ((with_reducible refine gate_callee (f := 9) rfl ?_); refine goesL_ (some 15) rfl rfl Tryd.func9 (by kernel_rfl) rfl #[] rfl (by (try simp only [List.map_toArray, List.map_cons, List.map_nil]); first | done | rfl | (simp only [List.length_drop, List.length_take]; rfl)) ?_; (with_reducible refine (marshallinglaw06_examples.calls k  false _ ?side1 A3.out).mono ?_); (case side1 => exact Glob.below HG.out (by repeat (first | (with_reducible first | exact HB.out | apply below_alloc | apply pw_below_drewN | apply below_drew1) | exact HB.out))); rintro e w46 ⟨rfl, hb⟩; refine ⟨_, rfl, ?_⟩; have n0_ := Aside0.mk (below_step (by repeat (first | (with_reducible first | exact HB.out | apply below_alloc | apply pw_below_drewN | apply below_drew1) | exact HB.out)) hb); clear HB; have HB := n0_; clear n0_; (try clear hb); (try clear hb2); (try clear hk); (try clear hi)))
    go_ret
    exact ⟨by first | rfl | (simp [errW_none, errW_some] <;> rfl) | (simp [*, errW_none, errW_some] <;> rfl), by repeat (first | (with_reducible first | exact HB.out | apply below_alloc | apply pw_below_drewN | apply below_drew1) | exact HB.out)⟩

end Go.Proofs.YtjjphfnohgdpjaaDoor.K
