-- Written by this session's program mprint.py over the kit's printer (with hand-written contracts laid in). Not trusted: Lean checks it.
import Derived.Test.YtccaodehgaaheaaDoorR0
import Derived.Test.YtccaodehgaaheaaDoorR5
namespace Go.Proofs.YtccaodehgaaheaaDoor.R
open Go.RowKit Go.Proofs.YtccaodehgaaheaaDoorW.PrintWords Go.Proofs.YtccaodehgaaheaaDoorW.PrintLast Go.Proofs.YtccaodehgaaheaaDoorW.PrintMore
attribute [local go_sem] max2_int min2_int max_two min_two max_three min_three max_four min_four   -- for this text's walks alone
set_option linter.unusedVariables false
set_option linter.unusedSimpArgs false

/-! ### expr_Right: function 12 -/

theorem expr_Right.pred (R : S26 → Option Bool) (hR : ∀ (x : S26) (A : Option Addr) (c : Nat) (r : Bool) (w : World), Kd.C k26 w A x.f5.length x.f5 → x.f5.length ≤ c → Glob w → R x = some r → Calls Tryd.prog 12 #[.agg #[.int .i64 x.f0, .string x.f1, .int .i64 x.f2.f0, .int .i64 x.f2.f1, .string x.f2.f2, .string x.f3, .string x.f4, .slice A x.f5.length c]] w fun e w' => e = .returned (.bool r) ∧ Below w.heap.size w w') (x : S26) (A : Option Addr) (c : Nat) (r : Bool) (w : World) (hr : Kd.C k26 w A x.f5.length x.f5) (hc : x.f5.length ≤ c) (hG : Glob w) (h : R x = some r) :
    Calls Tryd.prog 35 #[.agg #[.int .i64 x.f0, .string x.f1, .int .i64 x.f2.f0, .int .i64 x.f2.f1, .string x.f2.f2, .string x.f3, .string x.f4, .slice A x.f5.length c]] w fun e w' => e = .returned (.bool (!r)) ∧ Below w.heap.size w w' := by
  have hu26 := Tryd.underlying26
  have HH := Lib.hid (hR x A c r (w.alloc (.cells #[.int .i64 x.f0, .string x.f1, .int .i64 x.f2.f0, .int .i64 x.f2.f1, .string x.f2.f2, .string x.f3, .string x.f4, .slice A x.f5.length c] 26)) (Kd.C_alloc hr _) hc (hG.below (below_alloc (Below.refl _ _) _)) h)
  clear hR hr hc hG h
  go_enter Tryd.func35, Tryd.ntmps35
  go_wp2_with (go_at_call 12; refine HH.out.mono ?_; rintro e w' ⟨rfl, hb⟩)
  go_ret
  exact ⟨rfl, ((Below.refl _ w).alloc (Nat.le_refl _) _).trans (hb.mono (by simp))⟩
set_option maxHeartbeats 2000000 in
set_option maxRecDepth 100000 in
theorem expr_Right.scan (R : S26 → Option Bool) (hR : ∀ (x : S26) (A : Option Addr) (c : Nat) (r : Bool) (w : World), Kd.C k26 w A x.f5.length x.f5 → x.f5.length ≤ c → Glob w → R x = some r → Calls Tryd.prog 12 #[.agg #[.int .i64 x.f0, .string x.f1, .int .i64 x.f2.f0, .int .i64 x.f2.f1, .string x.f2.f2, .string x.f3, .string x.f4, .slice A x.f5.length c]] w fun e w' => e = .returned (.bool r) ∧ Below w.heap.size w w') (A0 : Option Addr) (c0 : Nat) (l0 : List S26) (b : Bool) (w : World) (hr0 : Kd.C k26 w A0 l0.length l0) (hc0 : l0.length ≤ c0) (hG : Glob w) (hb : allO R l0 = some b) :
    Calls Tryd.prog 51 #[.slice A0 l0.length c0, .func (.func 35) #[] #[]] w fun e w' => e = .returned (.int .i64 (firstO R l0 0)) ∧ Below w.heap.size w w' := by
  have hu26 := Tryd.underlying26
  have hm := Kd.C_max hr0
  have HPRED := Lib.hid (expr_Right.pred R hR)
  clear hR
  generalize hR : firstO R l0 0 = RR
  have HRR := Aside0.mk hR
  clear hR
  have HR := Aside0.mk hr0
  have HG := Aside0.mk hG
  have HAL := Aside0.mk hb
  clear hr0 hG hb
  go_enter Tryd.func51, Tryd.ntmps51
  go_wp2
  go_loopg [5, 8] l0.length (fun gg _ s8 wr => ∃ kk : Nat, kk ≤ l0.length ∧ l0.length - kk ≤ gg ∧ s8 = .int .i64 kk ∧ Aside0 (Below w.heap.size w wr) ∧ Aside0 (∀ j y, j < kk → l0[j]? = some y → R y = some true))
  case atStart => exact ⟨0, Nat.zero_le _, by omega, rfl, ⟨Below.refl _ _⟩, ⟨fun j y hj => absurd hj (Nat.not_lt_zero _)⟩⟩
  case round =>
    obtain ⟨kk, hkk, hg, rfl, HB, HP⟩ := hrel
    by_cases hlt : kk < l0.length
    · have hlt' : (kk : Int) < (l0.length : Int) := by omega
      have h0' : (0 : Int) ≤ (kk : Int) := by omega
      have hrw := Kd.C_below HR.out HB.out
      obtain ⟨ad, AA, cc, rfl, hx0, hx1, hx2, hx3, hx4, hx5, hx6, hx7, hle, hcc⟩ := at_T26 hrw kk h0' hlt'
      have hk : l0[kk]? = some (rd_T26 l0 kk) := by simp [rd_T26, hlt]
      generalize hy : rd_T26 l0 kk = y at hx0 hx1 hx2 hx3 hx4 hx5 hx6 hx7 hle hcc hk
      simp only [Int.toNat_natCast] at hx0 hx1 hx2 hx3 hx4 hx5 hx6 hx7
      clear hrw hy
      obtain ⟨q, hq⟩ := allO_at kk HAL.out hk HP.out
      have HK := Aside0.mk hk
      clear hk
      have HCALL := Lib.hid (HPRED.out y AA cc q wr hcc hle (HG.out.below HB.out) hq)
      clear hcc hle
      cases q with
      | false =>
        have HQ := Aside0.mk hq
        clear hq
        go_wp2_with (go_at_call 35; refine HCALL.out.mono ?_; rintro e w' ⟨rfl, hb⟩; have HB2 := Aside0.mk hb; clear hb)
        go_ret
        exact ⟨by rw [← HRR.out, firstO_hit R l0 kk y 0 HK.out HQ.out HP.out]; simp, HB.out.trans (HB2.out.mono HB.out.size)⟩
      | true =>
        have HQ := Aside0.mk hq
        clear hq
        go_wp2_with (go_at_call 35; refine HCALL.out.mono ?_; rintro e w' ⟨rfl, hb⟩; have HB2 := Aside0.mk hb; clear hb)
        go_roundg (l0.length - (kk + 1))
        case measure => omega
        case rel =>
          refine ⟨kk + 1, by omega, by omega, by go_num, ⟨HB.out.trans (HB2.out.mono HB.out.size)⟩, ⟨fun j z hj hz => ?_⟩⟩
          by_cases e : j = kk
          · subst e
            have h := HK.out
            rw [hz] at h
            cases h
            exact HQ.out
          · exact HP.out j z (by omega) hz
    · have hlt' : decide (kk < l0.length) = false := by simpa using hlt
      go_wp2
      go_ret
      exact ⟨by rw [← HRR.out, firstO_miss R l0 0 (fun j y hj => HP.out j y (by have := (List.getElem?_eq_some_iff.1 hj).1; omega) hj)]; rfl, HB.out⟩
set_option maxHeartbeats 2000000 in
theorem expr_Right.any (R : S26 → Option Bool) (hR : ∀ (x : S26) (A : Option Addr) (c : Nat) (r : Bool) (w : World), Kd.C k26 w A x.f5.length x.f5 → x.f5.length ≤ c → Glob w → R x = some r → Calls Tryd.prog 12 #[.agg #[.int .i64 x.f0, .string x.f1, .int .i64 x.f2.f0, .int .i64 x.f2.f1, .string x.f2.f2, .string x.f3, .string x.f4, .slice A x.f5.length c]] w fun e w' => e = .returned (.bool r) ∧ Below w.heap.size w w') (A0 : Option Addr) (c0 : Nat) (l0 : List S26) (b : Bool) (w : World) (hr0 : Kd.C k26 w A0 l0.length l0) (hc0 : l0.length ≤ c0) (hG : Glob w) (hb : allO R l0 = some b) :
    Calls Tryd.prog 34 #[.slice A0 l0.length c0, .func (.func 35) #[] #[]] w fun e w' => e = .returned (.bool (!b)) ∧ Below w.heap.size w w' := by
  have HS := Lib.hid (expr_Right.scan R hR A0 c0 l0 b w hr0 hc0 hG hb)
  clear hR hr0 hG
  cases b with
  | true =>
    rw [allO_true 0 hb] at HS
    clear hb
    go_enter Tryd.func34, Tryd.ntmps34
    go_wp2_with (go_at_call 51; refine HS.out.mono ?_; rintro e w' ⟨rfl, hb⟩; have HB := Aside0.mk hb; clear hb)
    go_ret
    exact ⟨rfl, HB.out⟩
  | false =>
    obtain ⟨k, hk⟩ := allO_false 0 hb
    rw [show ((0 : Nat) : Int) = 0 from rfl] at hk
    rw [hk] at HS
    clear hb hk
    have h0 : (0 : Int) ≤ (k : Int) := by omega
    go_enter Tryd.func34, Tryd.ntmps34
    go_wp2_with (go_at_call 51; refine HS.out.mono ?_; rintro e w' ⟨rfl, hb⟩; have HB := Aside0.mk hb; clear hb)
    go_ret
    exact ⟨rfl, HB.out⟩
def expr_Right.f : Nat → Int → ByteArray → Int → Int → ByteArray → ByteArray → ByteArray → List S26 → Option Bool
  | 0 => fun _ _ _ _ _ _ _ _ => none
  | k + 1 => fun a0 a1 a2 a3 a4 a5 a6 l7 => (expr_Expr_head.f k a0 a1 a2 a3 a4 a5 a6 l7).bind fun b => if b = true then allO (fun x => expr_Right.f k x.f0 x.f1 x.f2.f0 x.f2.f1 x.f2.f2 x.f3 x.f4 x.f5) l7 else some false
theorem expr_Right.mono : ∀ a0 a1 a2 a3 a4 a5 a6 a7 k, LeO (expr_Right.f k a0 a1 a2 a3 a4 a5 a6 a7) (expr_Right.f (k + 1) a0 a1 a2 a3 a4 a5 a6 a7) := by
  have key : ∀ k a0 a1 a2 a3 a4 a5 a6 a7, LeO (expr_Right.f k a0 a1 a2 a3 a4 a5 a6 a7) (expr_Right.f (k + 1) a0 a1 a2 a3 a4 a5 a6 a7) := by
    intro k
    induction k with
    | zero => intros; exact LeO.none _
    | succ k ih =>
      intro a0 a1 a2 a3 a4 a5 a6 a7
      exact LeO.bind (expr_Expr_head.mono _ _ _ _ _ _ _ _ _) (fun _ => LeO.ite (allO_mono (fun x => ih _ _ _ _ _ _ _ _) _) (LeO.refl _))
  exact fun a0 a1 a2 a3 a4 a5 a6 a7 k => key k a0 a1 a2 a3 a4 a5 a6 a7
set_option maxHeartbeats 4000000 in
set_option maxRecDepth 100000 in
theorem expr_Right.calls (k : Nat) : ∀ (a0_0 : Int) (a0_1 : ByteArray) (a0_2 : Int) (a0_3 : Int) (a0_4 : ByteArray) (a0_5 : ByteArray) (a0_6 : ByteArray) (A0_7 : Option Addr) (c0_7 : Nat) (l0_7 : List (S26)) (r : Bool) (w : World) (hr0_7 : Kd.C k26 w A0_7 l0_7.length l0_7) (hc0_7 : l0_7.length ≤ c0_7) (hG : Glob w) (h : expr_Right.f k a0_0 a0_1 a0_2 a0_3 a0_4 a0_5 a0_6 l0_7 = some r),
    Calls Tryd.prog 12 #[.agg #[.int .i64 a0_0, .string a0_1, .int .i64 a0_2, .int .i64 a0_3, .string a0_4, .string a0_5, .string a0_6, .slice A0_7 l0_7.length c0_7]] w fun e w' => e = .returned (.bool r) ∧ Below w.heap.size w w' := by
  induction k with
  | zero => intros; rename_i h; cases h
  | succ k ih =>
  intro a0_0 a0_1 a0_2 a0_3 a0_4 a0_5 a0_6 A0_7 c0_7 l0_7 r w hr0_7 hc0_7 hG h
  have hu26 := Tryd.underlying26
  have h' : (expr_Expr_head.f k a0_0 a0_1 a0_2 a0_3 a0_4 a0_5 a0_6 l0_7).bind (fun b => if b = true then allO (fun x => expr_Right.f k x.f0 x.f1 x.f2.f0 x.f2.f1 x.f2.f2 x.f3 x.f4 x.f5) l0_7 else some false) = some r := h
  clear h
  obtain ⟨b, hb, h⟩ := Option.bind_eq_some_iff.1 h'
  clear h'
  have hbw : Below w.heap.size w (w.alloc (.cells #[.int .i64 a0_0, .string a0_1, .int .i64 a0_2, .int .i64 a0_3, .string a0_4, .string a0_5, .string a0_6, .slice A0_7 l0_7.length c0_7] 26)) := below_alloc (Below.refl _ _) _
  have HHD := Lib.hid (expr_Expr_head.calls k a0_0 a0_1 a0_2 a0_3 a0_4 a0_5 a0_6 A0_7 c0_7 l0_7 b _ (Kd.C_below hr0_7 hbw) hc0_7 (hG.below hbw) hb)
  cases b with
  | false =>
    obtain rfl : false = r := Option.some.inj h
    clear ih hr0_7 hG h hb hbw
    go_enter Tryd.func12, Tryd.ntmps12
    go_wp2_with (go_at_call 33; refine HHD.out.mono ?_; rintro e w' ⟨rfl, hb⟩; have HB := Aside0.mk hb; clear hb)
    go_ret
    exact ⟨rfl, ((Below.refl _ w).alloc (Nat.le_refl _) _).trans (HB.out.mono (by simp))⟩
  | true =>
    have h2 : allO (fun x => expr_Right.f k x.f0 x.f1 x.f2.f0 x.f2.f1 x.f2.f2 x.f3 x.f4 x.f5) l0_7 = some r := h
    have HANY := Lib.hid (fun (w2 : World) (hb2 : Below w.heap.size w w2) => expr_Right.any (fun x => expr_Right.f k x.f0 x.f1 x.f2.f0 x.f2.f1 x.f2.f2 x.f3 x.f4 x.f5) (fun x A c r w => ih _ _ _ _ _ _ _ A c _ r w) A0_7 c0_7 l0_7 r w2 (Kd.C_below hr0_7 hb2) hc0_7 (hG.below hb2) h2)
    have HBW := Aside0.mk hbw
    clear ih hr0_7 hG h hb hbw h2
    go_enter Tryd.func12, Tryd.ntmps12
    go_wp2_with (first | (go_at_call 33; refine HHD.out.mono ?_; rintro e w' ⟨rfl, hb⟩; obtain ⟨hcl, hfl⟩ := expr_Expr_head.bcell hb; have HB := Aside0.mk (HBW.out.trans (hb.mono (by simp))); clear hb) | (go_at_call 34; refine (HANY.out _ HB.out).mono ?_; rintro e w2 ⟨rfl, hb⟩; have HB2 := Aside0.mk hb; clear hb))
    go_ret
    exact ⟨by cases r <;> rfl, HB.out.trans (HB2.out.mono HB.out.size)⟩

end Go.Proofs.YtccaodehgaaheaaDoor.R
