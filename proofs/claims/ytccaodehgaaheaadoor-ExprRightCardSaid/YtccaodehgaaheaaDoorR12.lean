-- Written by this session's program mprint.py over the kit's printer (with hand-written contracts laid in). Not trusted: Lean checks it.
import Derived.Test.YtccaodehgaaheaaDoorR0
import Derived.Test.YtccaodehgaaheaaDoorR1
namespace Go.Proofs.YtccaodehgaaheaaDoor.R
open Go.RowKit Go.Proofs.YtccaodehgaaheaaDoorW.PrintWords Go.Proofs.YtccaodehgaaheaaDoorW.PrintLast Go.Proofs.YtccaodehgaaheaaDoorW.PrintMore
attribute [local go_sem] max2_int min2_int max_two min_two max_three min_three max_four min_four   -- for this text's walks alone
set_option linter.unusedVariables false
set_option linter.unusedSimpArgs false

attribute [local go_sem high] eqA23
/-! ### expr_Ops: function 17 -/
def expr_Ops.f  : Option (List ByteArray) := some (([(⟨#[124, 124]⟩ : ByteArray), (⟨#[38, 38]⟩ : ByteArray), (⟨#[61, 61]⟩ : ByteArray), (⟨#[33, 61]⟩ : ByteArray), (⟨#[60]⟩ : ByteArray), (⟨#[60, 61]⟩ : ByteArray), (⟨#[62]⟩ : ByteArray), (⟨#[62, 61]⟩ : ByteArray), (⟨#[43]⟩ : ByteArray), (⟨#[45]⟩ : ByteArray), (⟨#[42]⟩ : ByteArray), (⟨#[47]⟩ : ByteArray), (⟨#[37]⟩ : ByteArray)] : List ByteArray))
set_option maxHeartbeats 8000000 in
set_option maxRecDepth 100000 in
theorem expr_Ops.calls  (r : List ByteArray) (w : World) (h : expr_Ops.f  = some r) :
    Calls Tryd.prog 17 #[] w fun e w' => ∃ v0_ : Value, e = .returned (v0_) ∧ Kd.R Kd.string 9 w' w.heap.size (fun _ => True) v0_ r ∧ Below w.heap.size w w' := by
  have HB := Aside0.mk (Below.refl w.heap.size w)
  have H : (some (([(⟨#[124, 124]⟩ : ByteArray), (⟨#[38, 38]⟩ : ByteArray), (⟨#[61, 61]⟩ : ByteArray), (⟨#[33, 61]⟩ : ByteArray), (⟨#[60]⟩ : ByteArray), (⟨#[60, 61]⟩ : ByteArray), (⟨#[62]⟩ : ByteArray), (⟨#[62, 61]⟩ : ByteArray), (⟨#[43]⟩ : ByteArray), (⟨#[45]⟩ : ByteArray), (⟨#[42]⟩ : ByteArray), (⟨#[47]⟩ : ByteArray), (⟨#[37]⟩ : ByteArray)] : List ByteArray))) = some r := h
  clear h
  obtain ⟨y133, hy133⟩ : ∃ y_ : List ByteArray, y_ = (([(⟨#[124, 124]⟩ : ByteArray), (⟨#[38, 38]⟩ : ByteArray), (⟨#[61, 61]⟩ : ByteArray), (⟨#[33, 61]⟩ : ByteArray), (⟨#[60]⟩ : ByteArray), (⟨#[60, 61]⟩ : ByteArray), (⟨#[62]⟩ : ByteArray), (⟨#[62, 61]⟩ : ByteArray), (⟨#[43]⟩ : ByteArray), (⟨#[45]⟩ : ByteArray), (⟨#[42]⟩ : ByteArray), (⟨#[47]⟩ : ByteArray), (⟨#[37]⟩ : ByteArray)] : List ByteArray)) := ⟨_, rfl⟩
  replace H : (some y133) = some r := by first | (rw [hy133]; with_reducible exact H) | (have H2_ := (Option.bind_some _ _).symm.trans H; rw [hy133]; with_reducible exact H2_) | (have H2_ := (Option.bind_some _ _).symm.trans H; with_reducible exact H2_) | with_reducible exact H | (rw [hy133]; exact H) | exact H
  have Ny133 := Aside0.mk hy133
  clear hy133
  obtain rfl := Option.some.inj H
  go_enter Tryd.func17, Tryd.ntmps17
  go_wp2_with (first | ((with_reducible refine gate_dst (N := 1) rfl ?_); refine Kd.R_lit Kd.string _ 9 ?hg (N := 1) ?hd (xs := ([(⟨#[124, 124]⟩ : ByteArray), (⟨#[38, 38]⟩ : ByteArray), (⟨#[61, 61]⟩ : ByteArray), (⟨#[33, 61]⟩ : ByteArray), (⟨#[60]⟩ : ByteArray), (⟨#[60, 61]⟩ : ByteArray), (⟨#[62]⟩ : ByteArray), (⟨#[62, 61]⟩ : ByteArray), (⟨#[43]⟩ : ByteArray), (⟨#[45]⟩ : ByteArray), (⟨#[42]⟩ : ByteArray), (⟨#[47]⟩ : ByteArray), (⟨#[37]⟩ : ByteArray)] : List ByteArray)) (inner := [.string (⟨#[124, 124]⟩ : ByteArray), .string (⟨#[38, 38]⟩ : ByteArray), .string (⟨#[61, 61]⟩ : ByteArray), .string (⟨#[33, 61]⟩ : ByteArray), .string (⟨#[60]⟩ : ByteArray), .string (⟨#[60, 61]⟩ : ByteArray), .string (⟨#[62]⟩ : ByteArray), .string (⟨#[62, 61]⟩ : ByteArray), .string (⟨#[43]⟩ : ByteArray), .string (⟨#[45]⟩ : ByteArray), .string (⟨#[42]⟩ : ByteArray), .string (⟨#[47]⟩ : ByteArray), .string (⟨#[37]⟩ : ByteArray)]) (ok := fun _ => True) (okp := fun _ => True) ?hr ?hp (fun _ hk => hk) trivial (Below.refl _ _) (Nat.le_refl _) (by simp) ?_; (case hd => rfl); (case hg => rfl); (case hr => first | (go_simp; done) | (go_simp; rfl)); (case hp => exact (Reps.one (show Kd.M Kd.string _ _ _ (⟨#[124, 124]⟩ : ByteArray) [.string (⟨#[124, 124]⟩ : ByteArray)] from rfl) (Reps.one (show Kd.M Kd.string _ _ _ (⟨#[38, 38]⟩ : ByteArray) [.string (⟨#[38, 38]⟩ : ByteArray)] from rfl) (Reps.one (show Kd.M Kd.string _ _ _ (⟨#[61, 61]⟩ : ByteArray) [.string (⟨#[61, 61]⟩ : ByteArray)] from rfl) (Reps.one (show Kd.M Kd.string _ _ _ (⟨#[33, 61]⟩ : ByteArray) [.string (⟨#[33, 61]⟩ : ByteArray)] from rfl) (Reps.one (show Kd.M Kd.string _ _ _ (⟨#[60]⟩ : ByteArray) [.string (⟨#[60]⟩ : ByteArray)] from rfl) (Reps.one (show Kd.M Kd.string _ _ _ (⟨#[60, 61]⟩ : ByteArray) [.string (⟨#[60, 61]⟩ : ByteArray)] from rfl) (Reps.one (show Kd.M Kd.string _ _ _ (⟨#[62]⟩ : ByteArray) [.string (⟨#[62]⟩ : ByteArray)] from rfl) (Reps.one (show Kd.M Kd.string _ _ _ (⟨#[62, 61]⟩ : ByteArray) [.string (⟨#[62, 61]⟩ : ByteArray)] from rfl) (Reps.one (show Kd.M Kd.string _ _ _ (⟨#[43]⟩ : ByteArray) [.string (⟨#[43]⟩ : ByteArray)] from rfl) (Reps.one (show Kd.M Kd.string _ _ _ (⟨#[45]⟩ : ByteArray) [.string (⟨#[45]⟩ : ByteArray)] from rfl) (Reps.one (show Kd.M Kd.string _ _ _ (⟨#[42]⟩ : ByteArray) [.string (⟨#[42]⟩ : ByteArray)] from rfl) (Reps.one (show Kd.M Kd.string _ _ _ (⟨#[47]⟩ : ByteArray) [.string (⟨#[47]⟩ : ByteArray)] from rfl) (Reps.one (show Kd.M Kd.string _ _ _ (⟨#[37]⟩ : ByteArray) [.string (⟨#[37]⟩ : ByteArray)] from rfl) (Reps.none _ _))))))))))))))); intro v134 w1 ho2 hb hg_ hnew_; clear hg_ hnew_; (first | rw [← Ny133.out] at ho2 | (simp only [Int.reduceToNat] at ho2; rw [← Ny133.out] at ho2)); have n0_ := Aside0.mk (Kd.R_lower ho2 (below_size (by repeat (first | (with_reducible first | exact HB.out | apply below_alloc | apply pw_below_drewN | apply below_drew1) | exact HB.out)))); have n1_ := Aside0.mk (below_step (by repeat (first | (with_reducible first | exact HB.out | apply below_alloc | apply pw_below_drewN | apply below_drew1) | exact HB.out)) hb); clear HB; have HO135 := n0_; have HB := n1_; clear n0_ n1_; clear hb ho2))
  go_ret
  exact ⟨_, by first | rfl | (simp [errW_none, errW_some] <;> rfl) | (simp [*, errW_none, errW_some] <;> rfl), by (with_reducible repeat (first | apply Kd.R_alloc | apply Kd.R_drewN | apply Kd.R_drew)); exact HO135.out, by repeat (first | (with_reducible first | exact HB.out | apply below_alloc | apply pw_below_drewN | apply below_drew1) | exact HB.out)⟩

/-! ### expr_Same: function 22 -/

set_option maxHeartbeats 2000000 in
set_option maxRecDepth 100000 in
theorem expr_Same.eqf_ne (A0 : Option Addr) (c0 : Nat) (l0 : List S26) (B0 : Option Addr) (d0 : Nat) (m0 : List S26) (w : World) (hr0 : Kd.C k26 w A0 l0.length l0) (hc0 : l0.length ≤ c0) (hr1 : Kd.C k26 w B0 m0.length m0) (hc1 : m0.length ≤ d0) (hn : l0.length ≠ m0.length) :
    Calls Tryd.prog 46 #[.slice A0 l0.length c0, .slice B0 m0.length d0, .func (.func 22) #[] #[]] w fun e w' => e = .returned (.bool false) ∧ Below w.heap.size w w' := by
  have hm := Kd.C_max hr0
  have hm1 := Kd.C_max hr1
  clear hr0 hr1
  have h1 : (l0.length != m0.length) = true := bne_iff_ne.2 hn
  have h2 : (l0.length == m0.length) = false := beq_eq_false_iff_ne.2 hn
  have h3 : ((l0.length : Int) != (m0.length : Int)) = true := bne_iff_ne.2 (by omega)
  have h4 : ((l0.length : Int) == (m0.length : Int)) = false := beq_eq_false_iff_ne.2 (by omega)
  clear hn
  go_enter Tryd.func46, Tryd.ntmps46
  go_wp2
  go_ret
  exact ⟨rfl, Below.refl _ _⟩
set_option maxHeartbeats 4000000 in
set_option maxRecDepth 100000 in
theorem expr_Same.eqf_eq (R : S26 → S26 → Option Bool) (hR : ∀ (x y : S26) (A : Option Addr) (c : Nat) (A' : Option Addr) (c' : Nat) (r : Bool) (w : World), Kd.C k26 w A x.f5.length x.f5 → x.f5.length ≤ c → Kd.C k26 w A' y.f5.length y.f5 → y.f5.length ≤ c' → R x y = some r → Calls Tryd.prog 22 #[.agg #[.int .i64 x.f0, .string x.f1, .int .i64 x.f2.f0, .int .i64 x.f2.f1, .string x.f2.f2, .string x.f3, .string x.f4, .slice A x.f5.length c], .agg #[.int .i64 y.f0, .string y.f1, .int .i64 y.f2.f0, .int .i64 y.f2.f1, .string y.f2.f2, .string y.f3, .string y.f4, .slice A' y.f5.length c']] w fun e w' => e = .returned (.bool r) ∧ Below w.heap.size w w') (A0 : Option Addr) (c0 : Nat) (l0 : List S26) (B0 : Option Addr) (d0 : Nat) (m0 : List S26) (b : Bool) (w : World) (hr0 : Kd.C k26 w A0 l0.length l0) (hc0 : l0.length ≤ c0) (hr1 : Kd.C k26 w B0 m0.length m0) (hc1 : m0.length ≤ d0) (hn : l0.length = m0.length) (hb : allO2 R l0 m0 = some b) :
    Calls Tryd.prog 46 #[.slice A0 l0.length c0, .slice B0 m0.length d0, .func (.func 22) #[] #[]] w fun e w' => e = .returned (.bool b) ∧ Below w.heap.size w w' := by
  have hu26 := Tryd.underlying26
  have hm := Kd.C_max hr0
  have hm1 := Kd.C_max hr1
  have h1 : (l0.length != m0.length) = false := bne_eq_false_iff_eq.2 hn
  have h2 : (l0.length == m0.length) = true := beq_iff_eq.2 hn
  have h3 : ((l0.length : Int) != (m0.length : Int)) = false := bne_eq_false_iff_eq.2 (by omega)
  have h4 : ((l0.length : Int) == (m0.length : Int)) = true := beq_iff_eq.2 (by omega)
  have HN := Lib.hid hn
  have HR0 := Aside0.mk hr0
  have HR1 := Aside0.mk hr1
  have HAL := Aside0.mk hb
  have HRR := Lib.hid hR
  clear hr0 hr1 hb hn hR
  go_enter Tryd.func46, Tryd.ntmps46
  go_wp2
  go_loopg [7, 8, 9, 17] l0.length (fun gg _ _ _ s17 wr => ∃ kk : Nat, kk ≤ l0.length ∧ l0.length - kk ≤ gg ∧ s17 = .int .i64 kk ∧ Aside0 (Below w.heap.size w wr) ∧ Aside0 (allO2 R (l0.drop kk) (m0.drop kk) = some b))
  case atStart => exact ⟨0, Nat.zero_le _, by omega, rfl, ⟨Below.refl _ _⟩, HAL⟩
  case round =>
    obtain ⟨kk, hkk, hg, rfl, HB, HP⟩ := hrel
    clear h1 h2 h3 h4
    by_cases hlt : kk < l0.length
    · have hltm : kk < m0.length := by have := HN.out; omega
      have hlt' : (kk : Int) < (l0.length : Int) := by omega
      have hltm' : (kk : Int) < (m0.length : Int) := by omega
      have h0' : (0 : Int) ≤ (kk : Int) := by omega
      have hrw := Kd.C_below HR0.out HB.out
      have hrm := Kd.C_below HR1.out HB.out
      obtain ⟨ad, AA, cc, rfl, hx0, hx1, hx2, hx3, hx4, hx5, hx6, hx7, hle, hcc⟩ := at_T26 hrw kk h0' hlt'
      obtain ⟨adb, AAb, ccb, rfl, hxb0, hxb1, hxb2, hxb3, hxb4, hxb5, hxb6, hxb7, hleb, hccb⟩ := at_T26 hrm kk h0' hltm'
      have hk : l0[kk]? = some (rd_T26 l0 kk) := by simp [rd_T26, hlt]
      have hkb : m0[kk]? = some (rd_T26 m0 kk) := by simp [rd_T26, hltm]
      generalize hy : rd_T26 l0 kk = y at hx0 hx1 hx2 hx3 hx4 hx5 hx6 hx7 hle hcc hk
      generalize hyb : rd_T26 m0 kk = yb at hxb0 hxb1 hxb2 hxb3 hxb4 hxb5 hxb6 hxb7 hleb hccb hkb
      simp only [Int.toNat_natCast] at hx0 hx1 hx2 hx3 hx4 hx5 hx6 hx7 hxb0 hxb1 hxb2 hxb3 hxb4 hxb5 hxb6 hxb7
      clear hrw hrm hy hyb
      obtain ⟨q, hq, hqt, hqf⟩ := allO2_drop kk hk hkb HP.out
      clear hk hkb
      have HCALL := Lib.hid (fun (w2 : World) (hb2 : Below wr.heap.size wr w2) => HRR.out y yb AA cc AAb ccb q w2 (Kd.C_below hcc hb2) hle (Kd.C_below hccb hb2) hleb hq)
      clear hcc hle hccb hleb hq
      have hyb0 := fun o => Lib.cell?_alloc_some (W := wr) o hxb0
      have hyb1 := fun o => Lib.cell?_alloc_some (W := wr) o hxb1
      have hyb2 := fun o => Lib.cell?_alloc_some (W := wr) o hxb2
      have hyb3 := fun o => Lib.cell?_alloc_some (W := wr) o hxb3
      have hyb4 := fun o => Lib.cell?_alloc_some (W := wr) o hxb4
      have hyb5 := fun o => Lib.cell?_alloc_some (W := wr) o hxb5
      have hyb6 := fun o => Lib.cell?_alloc_some (W := wr) o hxb6
      have hyb7 := fun o => Lib.cell?_alloc_some (W := wr) o hxb7
      cases q with
      | false =>
        obtain rfl := hqf rfl
        clear hqt hqf
        go_wp2_with (go_at_call 22; refine (HCALL.out _ (below_alloc (below_alloc (Below.refl _ _) _) _)).mono ?_; rintro e w' ⟨rfl, hb⟩; have HB2 := Aside0.mk hb; clear hb)
        go_ret
        exact ⟨rfl, below_then (below_alloc (below_alloc HB.out _) _) (by have := HB.out.size; simp <;> omega) HB2.out⟩
      | true =>
        have HQ := Aside0.mk (hqt rfl)
        clear hqt hqf
        go_wp2_with (go_at_call 22; refine (HCALL.out _ (below_alloc (below_alloc (Below.refl _ _) _) _)).mono ?_; rintro e w' ⟨rfl, hb⟩; have HB2 := Aside0.mk hb; clear hb)
        go_roundg (l0.length - (kk + 1))
        case measure => omega
        case rel => exact ⟨kk + 1, by omega, by omega, by go_num, ⟨below_then (below_alloc (below_alloc HB.out _) _) (by have := HB.out.size; simp <;> omega) HB2.out⟩, HQ⟩
    · have hlt' : decide (kk < l0.length) = false := by simpa using hlt
      have hP := HP.out
      rw [List.drop_eq_nil_of_le (by omega), List.drop_eq_nil_of_le (by have := HN.out; omega)] at hP
      obtain rfl := Option.some.inj hP
      clear hP HP HAL
      go_wp2
      go_ret
      exact ⟨rfl, HB.out⟩
theorem expr_Same.eqf (R : S26 → S26 → Option Bool) (hR : ∀ (x y : S26) (A : Option Addr) (c : Nat) (A' : Option Addr) (c' : Nat) (r : Bool) (w : World), Kd.C k26 w A x.f5.length x.f5 → x.f5.length ≤ c → Kd.C k26 w A' y.f5.length y.f5 → y.f5.length ≤ c' → R x y = some r → Calls Tryd.prog 22 #[.agg #[.int .i64 x.f0, .string x.f1, .int .i64 x.f2.f0, .int .i64 x.f2.f1, .string x.f2.f2, .string x.f3, .string x.f4, .slice A x.f5.length c], .agg #[.int .i64 y.f0, .string y.f1, .int .i64 y.f2.f0, .int .i64 y.f2.f1, .string y.f2.f2, .string y.f3, .string y.f4, .slice A' y.f5.length c']] w fun e w' => e = .returned (.bool r) ∧ Below w.heap.size w w') (A0 : Option Addr) (c0 : Nat) (l0 : List S26) (B0 : Option Addr) (d0 : Nat) (m0 : List S26) (b : Bool) (w : World) (hr0 : Kd.C k26 w A0 l0.length l0) (hc0 : l0.length ≤ c0) (hr1 : Kd.C k26 w B0 m0.length m0) (hc1 : m0.length ≤ d0) (hb : (if l0.length = m0.length then allO2 R l0 m0 else some false) = some b) :
    Calls Tryd.prog 46 #[.slice A0 l0.length c0, .slice B0 m0.length d0, .func (.func 22) #[] #[]] w fun e w' => e = .returned (.bool b) ∧ Below w.heap.size w w' := by
  split at hb
  · exact expr_Same.eqf_eq R hR A0 c0 l0 B0 d0 m0 b w hr0 hc0 hr1 hc1 (by assumption) hb
  · obtain rfl := Option.some.inj hb
    exact expr_Same.eqf_ne A0 c0 l0 B0 d0 m0 w hr0 hc0 hr1 hc1 (by assumption)
def expr_Same.f : Nat → Int → ByteArray → Int → Int → ByteArray → ByteArray → ByteArray → List S26 → Int → ByteArray → Int → Int → ByteArray → ByteArray → ByteArray → List S26 → Option Bool
  | 0 => fun _ _ _ _ _ _ _ _ _ _ _ _ _ _ _ _ => none
  | k + 1 => fun a0_0 a0_1 a0_2 a0_3 a0_4 a0_5 a0_6 l0 a1_0 a1_1 a1_2 a1_3 a1_4 a1_5 a1_6 l1 => if ((a0_0 == a1_0) && (a0_1.toList == a1_1.toList) && (a0_2 == a1_2) && (a0_3 == a1_3) && (a0_4.toList == a1_4.toList) && (a0_5.toList == a1_5.toList) && (a0_6.toList == a1_6.toList)) = true then (if l0.length = l1.length then allO2 (fun x y => expr_Same.f k x.f0 x.f1 x.f2.f0 x.f2.f1 x.f2.f2 x.f3 x.f4 x.f5 y.f0 y.f1 y.f2.f0 y.f2.f1 y.f2.f2 y.f3 y.f4 y.f5) l0 l1 else some false) else some false
theorem expr_Same.mono : ∀ a0 a1 a2 a3 a4 a5 a6 a7 b0 b1 b2 b3 b4 b5 b6 b7 k, LeO (expr_Same.f k a0 a1 a2 a3 a4 a5 a6 a7 b0 b1 b2 b3 b4 b5 b6 b7) (expr_Same.f (k + 1) a0 a1 a2 a3 a4 a5 a6 a7 b0 b1 b2 b3 b4 b5 b6 b7) := by
  have key : ∀ k a0 a1 a2 a3 a4 a5 a6 a7 b0 b1 b2 b3 b4 b5 b6 b7, LeO (expr_Same.f k a0 a1 a2 a3 a4 a5 a6 a7 b0 b1 b2 b3 b4 b5 b6 b7) (expr_Same.f (k + 1) a0 a1 a2 a3 a4 a5 a6 a7 b0 b1 b2 b3 b4 b5 b6 b7) := by
    intro k
    induction k with
    | zero => intros; exact LeO.none _
    | succ k ih =>
      intros
      exact LeO.ite (LeO.ite (allO2_mono (fun x y => ih _ _ _ _ _ _ _ _ _ _ _ _ _ _ _ _) _ _) (LeO.refl _)) (LeO.refl _)
  intros
  exact key _ _ _ _ _ _ _ _ _ _ _ _ _ _ _ _ _
attribute [local go_sem high] eqA23
set_option maxHeartbeats 8000000 in
set_option maxRecDepth 100000 in
theorem expr_Same.calls (k : Nat) : ∀ (a0_0 : Int) (a0_1 : ByteArray) (a0_2 : Int) (a0_3 : Int) (a0_4 : ByteArray) (a0_5 : ByteArray) (a0_6 : ByteArray) (A0_7 : Option Addr) (c0_7 : Nat) (l0_7 : List (S26)) (a1_0 : Int) (a1_1 : ByteArray) (a1_2 : Int) (a1_3 : Int) (a1_4 : ByteArray) (a1_5 : ByteArray) (a1_6 : ByteArray) (A1_7 : Option Addr) (c1_7 : Nat) (l1_7 : List (S26)) (r : Bool) (w : World) (hr0_7 : Kd.C k26 w A0_7 l0_7.length l0_7) (hc0_7 : l0_7.length ≤ c0_7) (hr1_7 : Kd.C k26 w A1_7 l1_7.length l1_7) (hc1_7 : l1_7.length ≤ c1_7) (h : expr_Same.f k a0_0 a0_1 a0_2 a0_3 a0_4 a0_5 a0_6 l0_7 a1_0 a1_1 a1_2 a1_3 a1_4 a1_5 a1_6 l1_7 = some r),
    Calls Tryd.prog 22 #[.agg #[.int .i64 a0_0, .string a0_1, .int .i64 a0_2, .int .i64 a0_3, .string a0_4, .string a0_5, .string a0_6, .slice A0_7 l0_7.length c0_7], .agg #[.int .i64 a1_0, .string a1_1, .int .i64 a1_2, .int .i64 a1_3, .string a1_4, .string a1_5, .string a1_6, .slice A1_7 l1_7.length c1_7]] w fun e w' => e = .returned (.bool r) ∧ Below w.heap.size w w' := by
  induction k with
  | zero => intros; rename_i h; cases h
  | succ k ih =>
  intro a0_0 a0_1 a0_2 a0_3 a0_4 a0_5 a0_6 A0_7 c0_7 l0_7 a1_0 a1_1 a1_2 a1_3 a1_4 a1_5 a1_6 A1_7 c1_7 l1_7 r w hr0_7 hc0_7 hr1_7 hc1_7 h
  have hu26 := Tryd.underlying26
  have hu23 := Tryd.underlying23
  replace h : (if ((a0_0 == a1_0) && (a0_1.toList == a1_1.toList) && (a0_2 == a1_2) && (a0_3 == a1_3) && (a0_4.toList == a1_4.toList) && (a0_5.toList == a1_5.toList) && (a0_6.toList == a1_6.toList)) = true then (if l0_7.length = l1_7.length then allO2 (fun x y => expr_Same.f k x.f0 x.f1 x.f2.f0 x.f2.f1 x.f2.f2 x.f3 x.f4 x.f5 y.f0 y.f1 y.f2.f0 y.f2.f1 y.f2.f2 y.f3 y.f4 y.f5) l0_7 l1_7 else some false) else some false) = some r := h
  cases e0 : (a0_0 == a1_0) with
  | false =>
    simp only [e0, Bool.true_and, Bool.false_and, Bool.and_false, Bool.false_eq_true, if_false] at h
    obtain rfl := Option.some.inj h
    clear ih hr0_7 hr1_7
    go_enter Tryd.func22, Tryd.ntmps22
    go_wp2
    go_ret
    exact ⟨rfl, below_alloc (below_alloc (Below.refl _ _) _) _⟩
  | true =>
    cases e1 : (a0_1.toList == a1_1.toList) with
    | false =>
      simp only [e0, e1, Bool.true_and, Bool.false_and, Bool.and_false, Bool.false_eq_true, if_false] at h
      obtain rfl := Option.some.inj h
      clear ih hr0_7 hr1_7
      go_enter Tryd.func22, Tryd.ntmps22
      go_wp2
      go_ret
      exact ⟨rfl, below_alloc (below_alloc (Below.refl _ _) _) _⟩
    | true =>
      cases e2 : (a0_2 == a1_2) with
      | false =>
        simp only [e0, e1, e2, Bool.true_and, Bool.false_and, Bool.and_false, Bool.false_eq_true, if_false] at h
        obtain rfl := Option.some.inj h
        clear ih hr0_7 hr1_7
        go_enter Tryd.func22, Tryd.ntmps22
        go_wp2
        go_ret
        exact ⟨rfl, below_alloc (below_alloc (Below.refl _ _) _) _⟩
      | true =>
        cases e3 : (a0_3 == a1_3) with
        | false =>
          simp only [e0, e1, e2, e3, Bool.true_and, Bool.false_and, Bool.and_false, Bool.false_eq_true, if_false] at h
          obtain rfl := Option.some.inj h
          clear ih hr0_7 hr1_7
          go_enter Tryd.func22, Tryd.ntmps22
          go_wp2
          go_ret
          exact ⟨rfl, below_alloc (below_alloc (Below.refl _ _) _) _⟩
        | true =>
          cases e4 : (a0_4.toList == a1_4.toList) with
          | false =>
            simp only [e0, e1, e2, e3, e4, Bool.true_and, Bool.false_and, Bool.and_false, Bool.false_eq_true, if_false] at h
            obtain rfl := Option.some.inj h
            clear ih hr0_7 hr1_7
            go_enter Tryd.func22, Tryd.ntmps22
            go_wp2
            go_ret
            exact ⟨rfl, below_alloc (below_alloc (Below.refl _ _) _) _⟩
          | true =>
            cases e5 : (a0_5.toList == a1_5.toList) with
            | false =>
              simp only [e0, e1, e2, e3, e4, e5, Bool.true_and, Bool.false_and, Bool.and_false, Bool.false_eq_true, if_false] at h
              obtain rfl := Option.some.inj h
              clear ih hr0_7 hr1_7
              go_enter Tryd.func22, Tryd.ntmps22
              go_wp2
              go_ret
              exact ⟨rfl, below_alloc (below_alloc (Below.refl _ _) _) _⟩
            | true =>
              cases e6 : (a0_6.toList == a1_6.toList) with
              | false =>
                simp only [e0, e1, e2, e3, e4, e5, e6, Bool.true_and, Bool.false_and, Bool.and_false, Bool.false_eq_true, if_false] at h
                obtain rfl := Option.some.inj h
                clear ih hr0_7 hr1_7
                go_enter Tryd.func22, Tryd.ntmps22
                go_wp2
                go_ret
                exact ⟨rfl, below_alloc (below_alloc (Below.refl _ _) _) _⟩
              | true =>
                simp only [e0, e1, e2, e3, e4, e5, e6, Bool.true_and, if_true] at h
                have HEQ := Lib.hid (fun (w2 : World) (hb2 : Below w.heap.size w w2) => expr_Same.eqf (fun x y => expr_Same.f k x.f0 x.f1 x.f2.f0 x.f2.f1 x.f2.f2 x.f3 x.f4 x.f5 y.f0 y.f1 y.f2.f0 y.f2.f1 y.f2.f2 y.f3 y.f4 y.f5) (fun x y A c A' c' r w => ih _ _ _ _ _ _ _ A c _ _ _ _ _ _ _ _ A' c' _ r w) A0_7 c0_7 l0_7 A1_7 c1_7 l1_7 r w2 (Kd.C_below hr0_7 hb2) hc0_7 (Kd.C_below hr1_7 hb2) hc1_7 h)
                clear ih hr0_7 hr1_7 h
                go_enter Tryd.func22, Tryd.ntmps22
                go_wp2_with (go_at_call 46; refine (HEQ.out _ (below_alloc (below_alloc (Below.refl _ _) _) _)).mono ?_; rintro e w' ⟨rfl, hb⟩; have HB := Aside0.mk hb; clear hb)
                go_ret
                exact ⟨rfl, below_then (below_alloc (below_alloc (Below.refl _ _) _) _) (by simp <;> omega) HB.out⟩

end Go.Proofs.YtccaodehgaaheaaDoor.R
