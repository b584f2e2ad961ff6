-- Written by this session's program mprint.py over the kit's printer (with hand-written contracts laid in). Not trusted: Lean checks it.
import Derived.Test.YtccaodehgaaheaaDoorR0
import Derived.Test.YtccaodehgaaheaaDoorFd9
import Derived.Test.YtccaodehgaaheaaDoorR6
import Derived.Test.YtccaodehgaaheaaDoorR13
import Derived.Test.YtccaodehgaaheaaDoorR14
namespace Go.Proofs.YtccaodehgaaheaaDoor.R
open Go.RowKit Go.Proofs.YtccaodehgaaheaaDoorW.PrintWords Go.Proofs.YtccaodehgaaheaaDoorW.PrintLast Go.Proofs.YtccaodehgaaheaaDoorW.PrintMore
attribute [local go_sem] max2_int min2_int max_two min_two max_three min_three max_four min_four   -- for this text's walks alone
set_option linter.unusedVariables false
set_option linter.unusedSimpArgs false

/-! ### marshallinglaw07_ExprRight: function 6 -/
mutual
def marshallinglaw07_ExprRight.j0 : Nat → Int → ByteArray → Bool → Int → ByteArray → Int → Int → ByteArray → ByteArray → ByteArray → List (S26) → Option (Bool)
  | 0, _, _, _, _, _, _, _, _, _, _, _ => none
  | k + 1, x1, x2, x7, x341000, x341001, x341002, x341003, x341004, x341005, x341006, x341007 => if (Int.tmod x1 6) = 0 then (if ([] : List (S26)).length + x341007.length < 1256584717458 then ((some (([] : List (S26)) ++ x341007 : List (S26))).bind fun y342 => ((marshallinglaw07_lit.f 1).bind fun bt345 => (if y342.length < 1256584717458 then (marshallinglaw07_ExprRight.j1 k x7 x341000 x341001 x341002 x341003 x341004 x341005 x341006 (y342 ++ [(⟨bt345.1, bt345.2.1, (⟨bt345.2.2.1, bt345.2.2.2.1, bt345.2.2.2.2.1⟩ : S23), bt345.2.2.2.2.2.1, bt345.2.2.2.2.2.2.1, bt345.2.2.2.2.2.2.2⟩ : S26)])) else (none)))) else (none)) else (if (Int.tmod x1 6) = 1 then (if x341000 < 3 then (marshallinglaw07_ExprRight.j1 k x7 x341000 x2 x341002 x341003 x341004 x341005 x341006 x341007) else (marshallinglaw07_ExprRight.j1 k x7 x341000 x341001 x341002 x341003 x341004 x2 x341006 x341007)) else (if (Int.tmod x1 6) = 2 then (if x341000 = 0 then (marshallinglaw07_ExprRight.j1 k x7 x341000 x341001 x341002 (-1) x341004 x341005 x341006 x341007) else (marshallinglaw07_ExprRight.j1 k x7 x341000 x341001 1 0 (⟨#[]⟩ : ByteArray) x341005 x341006 x341007)) else (if (Int.tmod x1 6) = 3 then (if x341000 = 1 then (if 1 + x2.size ≤ 9223372036854775807 then (marshallinglaw07_ExprRight.j1 k x7 x341000 x341001 x341002 x341003 x341004 x341005 ((⟨#[57]⟩ : ByteArray) ++ x2) x341007) else (none)) else (marshallinglaw07_ExprRight.j1 k x7 x341000 x341001 x341002 x341003 x341004 x341005 x2 x341007)) else (if (Int.tmod x1 6) = 4 then (marshallinglaw07_ExprRight.j1 k x7 (wrap64 ((-1) - x341000)) x341001 x341002 x341003 x341004 x341005 x341006 x341007) else (if (Int.tmod x1 6) = 5 then ((marshallinglaw07_two.f (⟨#[61]⟩ : ByteArray) x341000 x341001 x341002 x341003 x341004 x341005 x341006 x341007 x341000 x341001 x341002 x341003 x341004 x341005 x341006 x341007).bind fun bt358 => (marshallinglaw07_ExprRight.j1 k x7 bt358.1 bt358.2.1 bt358.2.2.1 bt358.2.2.2.1 bt358.2.2.2.2.1 bt358.2.2.2.2.2.1 bt358.2.2.2.2.2.2.1 bt358.2.2.2.2.2.2.2)) else (marshallinglaw07_ExprRight.j1 k x7 x341000 x341001 x341002 x341003 x341004 x341005 x341006 x341007))))))
def marshallinglaw07_ExprRight.j1 : Nat → Bool → Int → ByteArray → Int → Int → ByteArray → ByteArray → ByteArray → List (S26) → Option (Bool)
  | 0, _, _, _, _, _, _, _, _, _ => none
  | k + 1, x7, x341000, x341001, x341002, x341003, x341004, x341005, x341006, x341007 => (marshallinglaw07_lit.f 0).bind fun bt368 => ((marshallinglaw07_two.f (⟨#[43]⟩ : ByteArray) bt368.1 bt368.2.1 bt368.2.2.1 bt368.2.2.2.1 bt368.2.2.2.2.1 bt368.2.2.2.2.2.1 bt368.2.2.2.2.2.2.1 bt368.2.2.2.2.2.2.2 x341000 x341001 x341002 x341003 x341004 x341005 x341006 x341007).bind fun bt378 => (if x7 = true then ((expr_Right.f k x341000 x341001 x341002 x341003 x341004 x341005 x341006 x341007).bind fun t389 => (if t389 = true then (none) else ((expr_Right.f k bt378.1 bt378.2.1 bt378.2.2.1 bt378.2.2.2.1 bt378.2.2.2.2.1 bt378.2.2.2.2.2.1 bt378.2.2.2.2.2.2.1 bt378.2.2.2.2.2.2.2).bind fun t390 => (some (!t390))))) else (none)))
end
def marshallinglaw07_ExprRight.f (k : Nat) (l0 : List Int) (a1 : Int) (a2 : ByteArray) : Option (Bool) := (marshallinglaw07_examples.f k).bind fun t329 => (if t329 = true then ((marshallinglaw07_made.f l0).bind fun bt330 => ((expr_Right.f k bt330.1 bt330.2.1 bt330.2.2.1 bt330.2.2.2.1 bt330.2.2.2.2.1 bt330.2.2.2.2.2.1 bt330.2.2.2.2.2.2.1 bt330.2.2.2.2.2.2.2).bind fun t341 => (if t341 = true then (if a2.toList = ([] : List UInt8) then (marshallinglaw07_ExprRight.j0 k a1 (⟨#[113]⟩ : ByteArray) t329 bt330.1 bt330.2.1 bt330.2.2.1 bt330.2.2.2.1 bt330.2.2.2.2.1 bt330.2.2.2.2.2.1 bt330.2.2.2.2.2.2.1 bt330.2.2.2.2.2.2.2) else (marshallinglaw07_ExprRight.j0 k a1 a2 t329 bt330.1 bt330.2.1 bt330.2.2.1 bt330.2.2.2.1 bt330.2.2.2.2.1 bt330.2.2.2.2.2.1 bt330.2.2.2.2.2.2.1 bt330.2.2.2.2.2.2.2)) else (none)))) else (none))
theorem marshallinglaw07_ExprRight.mono_l : ∀ k, (∀ y0 y1 y2 y3 y4 y5 y6 y7 y8 y9 y10, LeO (marshallinglaw07_ExprRight.j0 k y0 y1 y2 y3 y4 y5 y6 y7 y8 y9 y10) (marshallinglaw07_ExprRight.j0 (k + 1) y0 y1 y2 y3 y4 y5 y6 y7 y8 y9 y10)) ∧ (∀ y0 y1 y2 y3 y4 y5 y6 y7 y8, LeO (marshallinglaw07_ExprRight.j1 k y0 y1 y2 y3 y4 y5 y6 y7 y8) (marshallinglaw07_ExprRight.j1 (k + 1) y0 y1 y2 y3 y4 y5 y6 y7 y8))
  | 0 => ⟨fun _ _ _ _ _ _ _ _ _ _ _ r h => by simp [marshallinglaw07_ExprRight.j0] at h, fun _ _ _ _ _ _ _ _ _ r h => by simp [marshallinglaw07_ExprRight.j1] at h⟩
  | k + 1 => by
    obtain ⟨ih0, ih1⟩ := marshallinglaw07_ExprRight.mono_l k
    refine ⟨?_, ?_⟩
    · intro y0 y1 y2 y3 y4 y5 y6 y7 y8 y9 y10
      unfold marshallinglaw07_ExprRight.j0
      repeat' first
      | (with_reducible exact ih0 _ _ _ _ _ _ _ _ _ _ _)
      | (with_reducible exact ih1 _ _ _ _ _ _ _ _ _)
      | (with_reducible exact expr_Right.mono _ _ _ _ _ _ _ _ _)
      | (with_reducible exact marshallinglaw07_examples.mono _)
      | (with_reducible exact LeO.refl _)
      | (with_reducible exact LeO.none _)
      | (with_reducible refine LeO.ite ?_ ?_)
      | (with_reducible refine LeO.bind ?_ (fun _ => ?_))
      | exact ih0 _ _ _ _ _ _ _ _ _ _ _
      | exact ih1 _ _ _ _ _ _ _ _ _
      | exact expr_Right.mono _ _ _ _ _ _ _ _ _
      | exact marshallinglaw07_examples.mono _
      | exact LeO.none _
      | refine LeO.ite ?_ ?_
      | refine LeO.bind ?_ (fun _ => ?_)
    · intro y0 y1 y2 y3 y4 y5 y6 y7 y8
      unfold marshallinglaw07_ExprRight.j1
      repeat' first
      | (with_reducible exact ih0 _ _ _ _ _ _ _ _ _ _ _)
      | (with_reducible exact ih1 _ _ _ _ _ _ _ _ _)
      | (with_reducible exact expr_Right.mono _ _ _ _ _ _ _ _ _)
      | (with_reducible exact marshallinglaw07_examples.mono _)
      | (with_reducible exact LeO.refl _)
      | (with_reducible exact LeO.none _)
      | (with_reducible refine LeO.ite ?_ ?_)
      | (with_reducible refine LeO.bind ?_ (fun _ => ?_))
      | exact ih0 _ _ _ _ _ _ _ _ _ _ _
      | exact ih1 _ _ _ _ _ _ _ _ _
      | exact expr_Right.mono _ _ _ _ _ _ _ _ _
      | exact marshallinglaw07_examples.mono _
      | exact LeO.none _
      | refine LeO.ite ?_ ?_
      | refine LeO.bind ?_ (fun _ => ?_)
theorem marshallinglaw07_ExprRight.mono : ∀ a0 a1 a2 k, LeO (marshallinglaw07_ExprRight.f k a0 a1 a2) (marshallinglaw07_ExprRight.f (k + 1) a0 a1 a2) := by
  intro a0 a1 a2 k
  obtain ⟨ih0, ih1⟩ := marshallinglaw07_ExprRight.mono_l k
  unfold marshallinglaw07_ExprRight.f
  repeat' first
      | (with_reducible exact ih0 _ _ _ _ _ _ _ _ _ _ _)
      | (with_reducible exact ih1 _ _ _ _ _ _ _ _ _)
      | (with_reducible exact expr_Right.mono _ _ _ _ _ _ _ _ _)
      | (with_reducible exact marshallinglaw07_examples.mono _)
      | (with_reducible exact LeO.refl _)
      | (with_reducible exact LeO.none _)
      | (with_reducible refine LeO.ite ?_ ?_)
      | (with_reducible refine LeO.bind ?_ (fun _ => ?_))
      | exact ih0 _ _ _ _ _ _ _ _ _ _ _
      | exact ih1 _ _ _ _ _ _ _ _ _
      | exact expr_Right.mono _ _ _ _ _ _ _ _ _
      | exact marshallinglaw07_examples.mono _
      | exact LeO.none _
      | refine LeO.ite ?_ ?_
      | refine LeO.bind ?_ (fun _ => ?_)
set_option maxHeartbeats 8000000 in
set_option maxRecDepth 100000 in
theorem marshallinglaw07_ExprRight.calls (k : Nat) (A0 : Option Addr) (c0 : Nat) (l0 : List Int) (a1 : Int) (a2 : ByteArray) (r : Bool) (w : World) (hr0 : Kd.C (Kd.int .u8) w A0 l0.length l0) (hc0 : l0.length ≤ c0) (hG : Glob w) (h : marshallinglaw07_ExprRight.f k l0 a1 a2 = some r) :
    Calls Tryd.prog 6 #[.slice A0 l0.length c0, .int .u8 a1, .string a2] w fun e w' => e = .returned (.bool r) ∧ Below w.heap.size w w' := by
  have hu26 := Tryd.underlying26
  have hu23 := Tryd.underlying23
  have HG := Aside0.mk hG
  clear hG
  have HR0 := Aside0.mk hr0
  have HC0 := Aside0.mk hc0
  clear hr0 hc0
  have HB := Aside0.mk (Below.refl w.heap.size w)
  have H : ((marshallinglaw07_examples.f k).bind fun t329 => (if t329 = true then ((marshallinglaw07_made.f l0).bind fun bt330 => ((expr_Right.f k bt330.1 bt330.2.1 bt330.2.2.1 bt330.2.2.2.1 bt330.2.2.2.2.1 bt330.2.2.2.2.2.1 bt330.2.2.2.2.2.2.1 bt330.2.2.2.2.2.2.2).bind fun t341 => (if t341 = true then (if a2.toList = ([] : List UInt8) then (marshallinglaw07_ExprRight.j0 k a1 (⟨#[113]⟩ : ByteArray) t329 bt330.1 bt330.2.1 bt330.2.2.1 bt330.2.2.2.1 bt330.2.2.2.2.1 bt330.2.2.2.2.2.1 bt330.2.2.2.2.2.2.1 bt330.2.2.2.2.2.2.2) else (marshallinglaw07_ExprRight.j0 k a1 a2 t329 bt330.1 bt330.2.1 bt330.2.2.1 bt330.2.2.2.1 bt330.2.2.2.2.1 bt330.2.2.2.2.2.1 bt330.2.2.2.2.2.2.1 bt330.2.2.2.2.2.2.2)) else (none)))) else (none))) = some r := h
  clear h
  replace H := Option.bind_eq_some_iff.mp H
  obtain ⟨t329, A40, H⟩ := H
  replace H : (if t329 = true then ((marshallinglaw07_made.f l0).bind fun bt330 => ((expr_Right.f k bt330.1 bt330.2.1 bt330.2.2.1 bt330.2.2.2.1 bt330.2.2.2.2.1 bt330.2.2.2.2.2.1 bt330.2.2.2.2.2.2.1 bt330.2.2.2.2.2.2.2).bind fun t341 => (if t341 = true then (if a2.toList = ([] : List UInt8) then (marshallinglaw07_ExprRight.j0 k a1 (⟨#[113]⟩ : ByteArray) t329 bt330.1 bt330.2.1 bt330.2.2.1 bt330.2.2.2.1 bt330.2.2.2.2.1 bt330.2.2.2.2.2.1 bt330.2.2.2.2.2.2.1 bt330.2.2.2.2.2.2.2) else (marshallinglaw07_ExprRight.j0 k a1 a2 t329 bt330.1 bt330.2.1 bt330.2.2.1 bt330.2.2.2.1 bt330.2.2.2.2.1 bt330.2.2.2.2.2.1 bt330.2.2.2.2.2.2.1 bt330.2.2.2.2.2.2.2)) else (none)))) else (none)) = some r := H
  have A4 := Aside0.mk A40
  clear A40
  by_cases c5 : t329 = true
  · subst c5
    have H1 : ((marshallinglaw07_made.f l0).bind fun bt330 => ((expr_Right.f k bt330.1 bt330.2.1 bt330.2.2.1 bt330.2.2.2.1 bt330.2.2.2.2.1 bt330.2.2.2.2.2.1 bt330.2.2.2.2.2.2.1 bt330.2.2.2.2.2.2.2).bind fun t341 => (if t341 = true then (if a2.toList = ([] : List UInt8) then (marshallinglaw07_ExprRight.j0 k a1 (⟨#[113]⟩ : ByteArray) true bt330.1 bt330.2.1 bt330.2.2.1 bt330.2.2.2.1 bt330.2.2.2.2.1 bt330.2.2.2.2.2.1 bt330.2.2.2.2.2.2.1 bt330.2.2.2.2.2.2.2) else (marshallinglaw07_ExprRight.j0 k a1 a2 true bt330.1 bt330.2.1 bt330.2.2.1 bt330.2.2.2.1 bt330.2.2.2.2.1 bt330.2.2.2.2.2.1 bt330.2.2.2.2.2.2.1 bt330.2.2.2.2.2.2.2)) else (none)))) = some r := by rw [if_pos rfl] at H; exact H
    clear H
    have H := H1
    clear H1
    replace H := Option.bind_eq_some_iff.mp H
    obtain ⟨⟨t330, t331, t332, t333, t334, t335, t336, t337⟩, A60, H⟩ := H
    replace H : ((expr_Right.f k t330 t331 t332 t333 t334 t335 t336 t337).bind fun t341 => (if t341 = true then (if a2.toList = ([] : List UInt8) then (marshallinglaw07_ExprRight.j0 k a1 (⟨#[113]⟩ : ByteArray) true t330 t331 t332 t333 t334 t335 t336 t337) else (marshallinglaw07_ExprRight.j0 k a1 a2 true t330 t331 t332 t333 t334 t335 t336 t337)) else (none))) = some r := H
    have A6 := Aside0.mk A60
    clear A60
    replace H := Option.bind_eq_some_iff.mp H
    obtain ⟨t341, A70, H⟩ := H
    replace H : (if t341 = true then (if a2.toList = ([] : List UInt8) then (marshallinglaw07_ExprRight.j0 k a1 (⟨#[113]⟩ : ByteArray) true t330 t331 t332 t333 t334 t335 t336 t337) else (marshallinglaw07_ExprRight.j0 k a1 a2 true t330 t331 t332 t333 t334 t335 t336 t337)) else (none)) = some r := H
    have A7 := Aside0.mk A70
    clear A70
    by_cases c8 : t341 = true
    · subst c8
      have H1 : (if a2.toList = ([] : List UInt8) then (marshallinglaw07_ExprRight.j0 k a1 (⟨#[113]⟩ : ByteArray) true t330 t331 t332 t333 t334 t335 t336 t337) else (marshallinglaw07_ExprRight.j0 k a1 a2 true t330 t331 t332 t333 t334 t335 t336 t337)) = some r := by rw [if_pos rfl] at H; exact H
      clear H
      have H := H1
      clear H1
      have HC9 := Aside0.mk H
      clear H
      go_enter Tryd.func6, Tryd.ntmps6
      go_upto_if 19 with (first | ((with_reducible refine gate_callee (f := 9) rfl ?_); refine goesL_ (some 10) rfl rfl Tryd.func9 (by kernel_rfl) rfl #[] rfl (by (try simp only [List.map_toArray, List.map_cons, List.map_nil]); first | done | rfl | (simp only [List.length_drop, List.length_take]; rfl)) ?_; (with_reducible refine (marshallinglaw07_examples.calls k  true _ ?side1 A4.out).mono ?_); (case side1 => exact Glob.below HG.out (by repeat (first | (with_reducible first | exact HB.out | apply below_alloc | apply pw_below_drewN | apply below_drew1) | exact HB.out))); clear A4; rintro e w10 ⟨rfl, hb⟩; refine ⟨_, rfl, ?_⟩; have n0_ := Aside0.mk (below_step (by repeat (first | (with_reducible first | exact HB.out | apply below_alloc | apply pw_below_drewN | apply below_drew1) | exact HB.out)) hb); clear HB; have HB := n0_; clear n0_; (try clear hb); (try clear hb2); (try clear hk); (try clear hi)) | ((with_reducible refine gate_callee (f := 10) rfl ?_); refine goesL_ (some 14) rfl rfl Tryd.func10 (by kernel_rfl) rfl #[.slice A0 l0.length c0] rfl (by (try simp only [List.map_toArray, List.map_cons, List.map_nil]); first | done | rfl | (simp only [List.length_drop, List.length_take]; rfl)) ?_; (with_reducible refine (marshallinglaw07_made.calls _ _ l0 t330 t331 t332 t333 t334 t335 t336 t337 _ ?side1 ?side2 A6.out).mono ?_); (case side1 => repeat (first | exact (Kd.C_below HR0.out HB.out) | (with_reducible refine Kd.C_alloc ?_ _) | (with_reducible refine Kd.C_drewN ?_ _) | (with_reducible refine Kd.C_drew ?_))); (case side2 => exact HC0.out); clear A6; rintro e w11 ⟨v338, rfl, ho0, hb⟩; refine ⟨_, rfl, ?_⟩; have n0_ := Aside0.mk (Kd.N_lower (Kd.N_mono (ok' := fun k_ => True) (Kd.N_bound ho0) (fun k_ hk_ => trivial)) (below_size (by repeat (first | (with_reducible first | exact HB.out | apply below_alloc | apply pw_below_drewN | apply below_drew1) | exact HB.out)))); have n1_ := Aside0.mk (below_step (by repeat (first | (with_reducible first | exact HB.out | apply below_alloc | apply pw_below_drewN | apply below_drew1) | exact HB.out)) hb); clear HB; have HO339 := n0_; have HB := n1_; clear n0_ n1_; (try clear hb); (try clear hb2); (try clear hk); (try clear hi); (try clear ho0)) | ((with_reducible refine gate_dst (N := 8) rfl ?_); refine box_event ?hg (N := 8) ?hd (cs := #[.int .i64 0, .string (⟨#[]⟩ : ByteArray), .int .i64 0, .int .i64 0, .string (⟨#[]⟩ : ByteArray), .string (⟨#[]⟩ : ByteArray), .string (⟨#[]⟩ : ByteArray), .slice none 0 0]) (t := 26) ?hr ?_; (case hd => rfl); (case hg => rfl); (case hr => first | (go_simp; done) | (go_simp; rfl)); intro gb340 hg w12 hbox hb; have n0_ := Aside0.mk (Kd.N_below (Kd.N_elderB (by (with_reducible repeat (first | apply Kd.N_alloc | apply Kd.N_drewN | apply Kd.N_drew)); exact HO339.out) gb340 (Nat.le_of_eq hg.symm)) hb); have n1_ := Aside0.mk (below_step (by repeat (first | (with_reducible first | exact HB.out | apply below_alloc | apply pw_below_drewN | apply below_drew1) | exact HB.out)) hb); have n2_ := Aside0.mk (hbox); have n3_ := Aside0.mk ((by rw [hg]; exact (below_size (by repeat (first | (with_reducible first | exact HB.out | apply below_alloc | apply pw_below_drewN | apply below_drew1) | exact HB.out))) : w.heap.size ≤ gb340)); have n4_ := Aside0.mk ((by rw [hg]; exact (below_size (by repeat (first | (with_reducible first | exact HB.out | apply below_alloc | apply pw_below_drewN | apply below_drew1) | exact HB.out))) : w.heap.size ≤ gb340)); clear HO339; clear HB; have HO339 := n0_; have HB := n1_; have BK340 := n2_; have GW340 := n3_; have GE340 := n4_; clear n0_ n1_ n2_ n3_ n4_; clear hb hbox hg; have hcz13_0 : w12.cell? ⟨gb340, 0, none⟩ = some (.int .i64 0) := (blk_cell BK340.out 0).trans rfl; have hcz13_1 : w12.cell? ⟨gb340, 1, none⟩ = some (.string (⟨#[]⟩ : ByteArray)) := (blk_cell BK340.out 1).trans rfl; have hcz13_2 : w12.cell? ⟨gb340, 2, none⟩ = some (.int .i64 0) := (blk_cell BK340.out 2).trans rfl; have hcz13_3 : w12.cell? ⟨gb340, 3, none⟩ = some (.int .i64 0) := (blk_cell BK340.out 3).trans rfl; have hcz13_4 : w12.cell? ⟨gb340, 4, none⟩ = some (.string (⟨#[]⟩ : ByteArray)) := (blk_cell BK340.out 4).trans rfl; have hcz13_5 : w12.cell? ⟨gb340, 5, none⟩ = some (.string (⟨#[]⟩ : ByteArray)) := (blk_cell BK340.out 5).trans rfl; have hcz13_6 : w12.cell? ⟨gb340, 6, none⟩ = some (.string (⟨#[]⟩ : ByteArray)) := (blk_cell BK340.out 6).trans rfl; have hcz13_7 : w12.cell? ⟨gb340, 7, none⟩ = some (.slice none 0 0) := (blk_cell BK340.out 7).trans rfl; have hfz13_0 := blk_frozen BK340.out 0; have hfz13_1 := blk_frozen BK340.out 1; have hfz13_2 := blk_frozen BK340.out 2; have hfz13_3 := blk_frozen BK340.out 3; have hfz13_4 := blk_frozen BK340.out 4; have hfz13_5 := blk_frozen BK340.out 5; have hfz13_6 := blk_frozen BK340.out 6; have hfz13_7 := blk_frozen BK340.out 7; obtain ⟨Ao14, co14, eo14⟩ := Kd.N_slice HO339.out; subst eo14) | ((with_reducible refine gate_callee (f := 12) rfl ?_); refine goesL_ (some 16) rfl rfl Tryd.func12 (by kernel_rfl) rfl #[.agg #[.int .i64 t330, .string t331, .int .i64 t332, .int .i64 t333, .string t334, .string t335, .string t336, .slice Ao14 t337.length co14]] rfl (by (try simp only [List.map_toArray, List.map_cons, List.map_nil]); first | done | rfl | (simp only [List.length_drop, List.length_take]; rfl)) ?_; (with_reducible refine (expr_Right.calls k t330 t331 t332 t333 t334 t335 t336 _ _ t337 true _ ?side1 ?side2 ?side3 A7.out).mono ?_); (case side1 => refine (Kd.N_reads' (e := 26) (base := w.heap.size) (ok := fun k_ => (True ∧ k_ ≠ gb340)) (n := t337.length) (c := co14) ?_).2.2; exact (by (with_reducible repeat (first | apply Kd.N_alloc | apply Kd.N_drewN | apply Kd.N_drew)); exact (Kd.N_mono (Kd.N_far (p := ⟨gb340, 7, none⟩) (Kd.N_far (p := ⟨gb340, 6, none⟩) (Kd.N_far (p := ⟨gb340, 5, none⟩) (Kd.N_far (p := ⟨gb340, 4, none⟩) (Kd.N_far (p := ⟨gb340, 3, none⟩) (Kd.N_far (p := ⟨gb340, 2, none⟩) (Kd.N_far (p := ⟨gb340, 1, none⟩) (Kd.N_far (p := ⟨gb340, 0, none⟩) (Kd.N_mono HO339.out (fun k_ hk => (⟨hk, hk.2⟩ : _ ∧ k_ ≠ gb340))) (fun _ hk => hk.2) (.int .i64 t330)) (fun _ hk => hk.2) (.string t331)) (fun _ hk => hk.2) (.int .i64 t332)) (fun _ hk => hk.2) (.int .i64 t333)) (fun _ hk => hk.2) (.string t334)) (fun _ hk => hk.2) (.string t335)) (fun _ hk => hk.2) (.string t336)) (fun _ hk => hk.2) (.slice Ao14 t337.length co14)) (fun _ h_ => h_.1)))); (case side2 => exact (Kd.N_reads' HO339.out).2.1); (case side3 => exact Glob.below HG.out (by repeat (first | (with_reducible first | exact HB.out | apply below_alloc | apply pw_below_drewN | apply below_drew1 | refine below_set ?_ GE340.out) | exact HB.out))); clear A7; rintro e w15 ⟨rfl, hb⟩; refine ⟨_, rfl, ?_⟩; have n0_ := Aside0.mk (Kd.N_below (by (with_reducible repeat (first | apply Kd.N_alloc | apply Kd.N_drewN | apply Kd.N_drew)); exact (Kd.N_mono (Kd.N_far (p := ⟨gb340, 7, none⟩) (Kd.N_far (p := ⟨gb340, 6, none⟩) (Kd.N_far (p := ⟨gb340, 5, none⟩) (Kd.N_far (p := ⟨gb340, 4, none⟩) (Kd.N_far (p := ⟨gb340, 3, none⟩) (Kd.N_far (p := ⟨gb340, 2, none⟩) (Kd.N_far (p := ⟨gb340, 1, none⟩) (Kd.N_far (p := ⟨gb340, 0, none⟩) (Kd.N_mono HO339.out (fun k_ hk => (⟨hk, hk.2⟩ : _ ∧ k_ ≠ gb340))) (fun _ hk => hk.2) (.int .i64 t330)) (fun _ hk => hk.2) (.string t331)) (fun _ hk => hk.2) (.int .i64 t332)) (fun _ hk => hk.2) (.int .i64 t333)) (fun _ hk => hk.2) (.string t334)) (fun _ hk => hk.2) (.string t335)) (fun _ hk => hk.2) (.string t336)) (fun _ hk => hk.2) (.slice Ao14 t337.length co14)) (fun _ h_ => h_.1))) hb); have n1_ := Aside0.mk (blk_below (g := gb340) (o := .cells #[.int .i64 t330, .string t331, .int .i64 t332, .int .i64 t333, .string t334, .string t335, .string t336, .slice Ao14 t337.length co14] 26 (0, 0)) (by (with_reducible repeat (first | refine blk_drewN ?_ _ | refine blk_drew ?_ | refine blk_alloc ?_ _)); refine blk_put (cs := #[.int .i64 t330, .string t331, .int .i64 t332, .int .i64 t333, .string t334, .string t335, .string t336, .slice none 0 0]) ?_ 7 _ rfl; (with_reducible repeat (first | refine blk_drewN ?_ _ | refine blk_drew ?_ | refine blk_alloc ?_ _)); refine blk_put (cs := #[.int .i64 t330, .string t331, .int .i64 t332, .int .i64 t333, .string t334, .string t335, .string (⟨#[]⟩ : ByteArray), .slice none 0 0]) ?_ 6 _ rfl; (with_reducible repeat (first | refine blk_drewN ?_ _ | refine blk_drew ?_ | refine blk_alloc ?_ _)); refine blk_put (cs := #[.int .i64 t330, .string t331, .int .i64 t332, .int .i64 t333, .string t334, .string (⟨#[]⟩ : ByteArray), .string (⟨#[]⟩ : ByteArray), .slice none 0 0]) ?_ 5 _ rfl; (with_reducible repeat (first | refine blk_drewN ?_ _ | refine blk_drew ?_ | refine blk_alloc ?_ _)); refine blk_put (cs := #[.int .i64 t330, .string t331, .int .i64 t332, .int .i64 t333, .string (⟨#[]⟩ : ByteArray), .string (⟨#[]⟩ : ByteArray), .string (⟨#[]⟩ : ByteArray), .slice none 0 0]) ?_ 4 _ rfl; (with_reducible repeat (first | refine blk_drewN ?_ _ | refine blk_drew ?_ | refine blk_alloc ?_ _)); refine blk_put (cs := #[.int .i64 t330, .string t331, .int .i64 t332, .int .i64 0, .string (⟨#[]⟩ : ByteArray), .string (⟨#[]⟩ : ByteArray), .string (⟨#[]⟩ : ByteArray), .slice none 0 0]) ?_ 3 _ rfl; (with_reducible repeat (first | refine blk_drewN ?_ _ | refine blk_drew ?_ | refine blk_alloc ?_ _)); refine blk_put (cs := #[.int .i64 t330, .string t331, .int .i64 0, .int .i64 0, .string (⟨#[]⟩ : ByteArray), .string (⟨#[]⟩ : ByteArray), .string (⟨#[]⟩ : ByteArray), .slice none 0 0]) ?_ 2 _ rfl; (with_reducible repeat (first | refine blk_drewN ?_ _ | refine blk_drew ?_ | refine blk_alloc ?_ _)); refine blk_put (cs := #[.int .i64 t330, .string (⟨#[]⟩ : ByteArray), .int .i64 0, .int .i64 0, .string (⟨#[]⟩ : ByteArray), .string (⟨#[]⟩ : ByteArray), .string (⟨#[]⟩ : ByteArray), .slice none 0 0]) ?_ 1 _ rfl; (with_reducible repeat (first | refine blk_drewN ?_ _ | refine blk_drew ?_ | refine blk_alloc ?_ _)); refine blk_put (cs := #[.int .i64 0, .string (⟨#[]⟩ : ByteArray), .int .i64 0, .int .i64 0, .string (⟨#[]⟩ : ByteArray), .string (⟨#[]⟩ : ByteArray), .string (⟨#[]⟩ : ByteArray), .slice none 0 0]) ?_ 0 _ rfl; (with_reducible repeat (first | refine blk_drewN ?_ _ | refine blk_drew ?_ | refine blk_alloc ?_ _)); exact BK340.out) hb); have n2_ := Aside0.mk (below_step (by repeat (first | (with_reducible first | exact HB.out | apply below_alloc | apply pw_below_drewN | apply below_drew1 | refine below_set ?_ GE340.out) | exact HB.out)) hb); clear HO339; clear BK340; clear HB; have HO339 := n0_; have BK340 := n1_; have HB := n2_; clear n0_ n1_ n2_; (try clear hb); (try clear hb2); (try clear hk); (try clear hi)))
      (try simp only [Act.put, List.setIfInBounds_toArray, List.set_cons_zero, List.set_cons_succ])
      go_cut [2] (fun v2 wc => ∃ (kq : Nat) (x2_8 : ByteArray), v2 = .string x2_8 ∧ Aside0 (marshallinglaw07_ExprRight.j0 kq a1 x2_8 true t330 t331 t332 t333 t334 t335 t336 t337 = some r) ∧ Aside0 (kq ≤ k) ∧ Aside0 (Kd.N k26 26 wc w.heap.size (fun k_ => k_ ≠ gb340) (.slice Ao14 t337.length co14) t337) ∧ Aside0 (wc.heap[gb340]? = some (.cells #[.int .i64 t330, .string t331, .int .i64 t332, .int .i64 t333, .string t334, .string t335, .string t336, (.slice Ao14 t337.length co14)] 26 (0, 0))) ∧ Aside0 (Below w.heap.size w wc))
      case first =>
        have H := HC9.out
        clear HC9
        by_cases c16 : a2.toList = ([] : List UInt8)
        · rw [if_pos c16] at H
          have c16b0 : (a2.toList == ([] : List UInt8)) = true := beq_iff_eq.mpr c16
          have c16b1 : (a2.toList != ([] : List UInt8)) = false := bne_eq_false_iff_eq.mpr c16
          (have c16b2 : a2.toList.isEmpty = true := List.isEmpty_iff.2 c16)
          (have c16b3 : (!a2.toList.isEmpty) = false := by simp [c16b2])
          clear c16
          (try rw [c16b3])
          (first | rw [c16b0] | (simp only [i64_w, i32_w]; rw [c16b0]) | skip)
          have H' := Aside0.mk H
          clear H
          go_wp2
          all_goals try (rename_i h_; rw [c16b2] at h_; cases h_; done)
          go_meet
          case rel => exact ⟨_, ((⟨#[113]⟩ : ByteArray)), (by first | rfl | (simp; done) | (simp [*]; done)), H', ⟨by first | omega | exact Nat.le_refl _⟩, ⟨by (with_reducible repeat (first | apply Kd.N_alloc | apply Kd.N_drewN | apply Kd.N_drew)); exact Kd.N_mono HO339.out (fun _ hk => hk.2)⟩, ⟨by (with_reducible repeat (first | refine blk_drewN ?_ _ | refine blk_drew ?_ | refine blk_alloc ?_ _)); exact BK340.out⟩, ⟨by repeat (first | (with_reducible first | exact HB.out | apply below_alloc | apply pw_below_drewN | apply below_drew1 | refine below_set ?_ GE340.out) | exact HB.out)⟩⟩
        · rw [if_neg c16] at H
          have c16b0 : (a2.toList == ([] : List UInt8)) = false := beq_eq_false_iff_ne.mpr c16
          have c16b1 : (a2.toList != ([] : List UInt8)) = true := bne_iff_ne.mpr c16
          (have c16b2 : a2.toList.isEmpty = false := by cases h_ : a2.toList.isEmpty with | true => exact absurd (List.isEmpty_iff.1 h_) c16 | false => rfl)
          (have c16b3 : (!a2.toList.isEmpty) = true := by simp [c16b2])
          (try rw [c16b3])
          (first | rw [c16b0] | (simp only [i64_w, i32_w]; rw [c16b0]) | skip)
          have H' := Aside0.mk H
          clear H
          go_wp2
          all_goals try (rename_i h_; rw [c16b2] at h_; cases h_; done)
          go_meet
          case rel => exact ⟨_, (a2), (by first | rfl | (simp; done) | (simp [*]; done)), H', ⟨by first | omega | exact Nat.le_refl _⟩, ⟨by (with_reducible repeat (first | apply Kd.N_alloc | apply Kd.N_drewN | apply Kd.N_drew)); exact Kd.N_mono HO339.out (fun _ hk => hk.2)⟩, ⟨by (with_reducible repeat (first | refine blk_drewN ?_ _ | refine blk_drew ?_ | refine blk_alloc ?_ _)); exact BK340.out⟩, ⟨by repeat (first | (with_reducible first | exact HB.out | apply below_alloc | apply pw_below_drewN | apply below_drew1 | refine below_set ?_ GE340.out) | exact HB.out)⟩⟩
      case rest =>
        clear HC9
        try clear c1
        try clear p2
        try clear c5
        try clear c6
        try clear c8
        try clear c9
        try clear c10
        try clear c12
        try clear c16
        try clear c16b0
        try clear c16b1
        try clear c16b2
        try clear hcz13_0
        try clear hcz13_1
        try clear hcz13_2
        try clear hcz13_3
        try clear hcz13_4
        try clear hcz13_5
        try clear hcz13_6
        try clear hcz13_7
        try clear hfz13_0
        try clear hfz13_1
        try clear hfz13_2
        try clear hfz13_3
        try clear hfz13_4
        try clear hfz13_5
        try clear hfz13_6
        try clear hfz13_7
        obtain ⟨kq, x2_8, rfl, HA, HJ8, HO_341007, BK340, HB⟩ := hcut
        cases kq with
        | zero => exact absurd HA.out (by simp [marshallinglaw07_ExprRight.j0])
        | succ kj8 =>
          have H := HA.out
          clear HA
          simp only [marshallinglaw07_ExprRight.j0] at H
          have HC17 := Aside0.mk H
          clear H
          go_upto_block 0 with (fail)
          go_cut [] (fun wc => ∃ (kq : Nat) (x341000_16 : Int) (x341001_16 : ByteArray) (x341002_16 : Int) (x341003_16 : Int) (x341004_16 : ByteArray) (x341005_16 : ByteArray) (x341006_16 : ByteArray) (x341007_16 : List (S26)) (u341007 : Value), Aside0 (marshallinglaw07_ExprRight.j1 kq true x341000_16 x341001_16 x341002_16 x341003_16 x341004_16 x341005_16 x341006_16 x341007_16 = some r) ∧ Aside0 (kq ≤ kj8) ∧ Aside0 (Kd.N k26 26 wc w.heap.size (fun k_ => k_ ≠ gb340) u341007 x341007_16) ∧ Aside0 (wc.heap[gb340]? = some (.cells #[.int .i64 x341000_16, .string x341001_16, .int .i64 x341002_16, .int .i64 x341003_16, .string x341004_16, .string x341005_16, .string x341006_16, u341007] 26 (0, 0))) ∧ Aside0 (Below w.heap.size w wc))
          case first =>
            have H := HC17.out
            clear HC17
            by_cases c18 : (Int.tmod a1 6) = 0
            · rw [if_pos c18] at H
              have c18b0 : ((Int.tmod a1 6) == 0) = true := beq_iff_eq.mpr c18
              have c18b1 : ((Int.tmod a1 6) != 0) = false := bne_eq_false_iff_eq.mpr c18
              clear c18
              (first | rw [c18b0] | (simp only [i64_w, i32_w]; rw [c18b0]) | skip)
              by_cases c19 : ([] : List (S26)).length + t337.length < 1256584717458
              · rw [if_pos c19] at H
                have LMc19 := Aside0.mk c19
                clear c19
                obtain ⟨y342, hy342⟩ : ∃ y_ : List (S26), y_ = (([] : List (S26)) ++ t337) := ⟨_, rfl⟩
                replace H : ((marshallinglaw07_lit.f 1).bind fun bt345 => (if y342.length < 1256584717458 then (marshallinglaw07_ExprRight.j1 kj8 true t330 t331 t332 t333 t334 t335 t336 (y342 ++ [(⟨bt345.1, bt345.2.1, (⟨bt345.2.2.1, bt345.2.2.2.1, bt345.2.2.2.2.1⟩ : S23), bt345.2.2.2.2.2.1, bt345.2.2.2.2.2.2.1, bt345.2.2.2.2.2.2.2⟩ : S26)])) else (none))) = some r := by first | (rw [hy342]; with_reducible exact H) | (have H2_ := (Option.bind_some _ _).symm.trans H; rw [hy342]; with_reducible exact H2_) | (have H2_ := (Option.bind_some _ _).symm.trans H; with_reducible exact H2_) | with_reducible exact H | (rw [hy342]; exact H) | exact H
                have Ny342 := Aside0.mk hy342
                clear hy342
                replace H := Option.bind_eq_some_iff.mp H
                obtain ⟨⟨t345, t346, t347, t348, t349, t350, t351, t352⟩, A200, H⟩ := H
                replace H : (if y342.length < 1256584717458 then (marshallinglaw07_ExprRight.j1 kj8 true t330 t331 t332 t333 t334 t335 t336 (y342 ++ [(⟨t345, t346, (⟨t347, t348, t349⟩ : S23), t350, t351, t352⟩ : S26)])) else (none)) = some r := H
                have A20 := Aside0.mk A200
                clear A200
                by_cases c21 : y342.length < 1256584717458
                · rw [if_pos c21] at H
                  have LMc21 := Aside0.mk c21
                  clear c21
                  obtain ⟨y355, hy355⟩ : ∃ y_ : List (S26), y_ = (y342 ++ [(⟨t345, t346, (⟨t347, t348, t349⟩ : S23), t350, t351, t352⟩ : S26)]) := ⟨_, rfl⟩
                  replace H : (marshallinglaw07_ExprRight.j1 kj8 true t330 t331 t332 t333 t334 t335 t336 y355) = some r := by first | (rw [hy355]; with_reducible exact H) | (have H2_ := (Option.bind_some _ _).symm.trans H; rw [hy355]; with_reducible exact H2_) | (have H2_ := (Option.bind_some _ _).symm.trans H; with_reducible exact H2_) | with_reducible exact H | (rw [hy355]; exact H) | exact H
                  have Ny355 := Aside0.mk hy355
                  clear hy355
                  have H' := Aside0.mk H
                  clear H
                  have hcz22_0 : wc.cell? ⟨gb340, 0, none⟩ = some (.int .i64 t330) := (blk_cell BK340.out 0).trans rfl
                  have hcz22_1 : wc.cell? ⟨gb340, 1, none⟩ = some (.string t331) := (blk_cell BK340.out 1).trans rfl
                  have hcz22_2 : wc.cell? ⟨gb340, 2, none⟩ = some (.int .i64 t332) := (blk_cell BK340.out 2).trans rfl
                  have hcz22_3 : wc.cell? ⟨gb340, 3, none⟩ = some (.int .i64 t333) := (blk_cell BK340.out 3).trans rfl
                  have hcz22_4 : wc.cell? ⟨gb340, 4, none⟩ = some (.string t334) := (blk_cell BK340.out 4).trans rfl
                  have hcz22_5 : wc.cell? ⟨gb340, 5, none⟩ = some (.string t335) := (blk_cell BK340.out 5).trans rfl
                  have hcz22_6 : wc.cell? ⟨gb340, 6, none⟩ = some (.string t336) := (blk_cell BK340.out 6).trans rfl
                  have hcz22_7 : wc.cell? ⟨gb340, 7, none⟩ = some (.slice Ao14 t337.length co14) := (blk_cell BK340.out 7).trans rfl
                  have hfz22_0 := blk_frozen BK340.out 0
                  have hfz22_1 := blk_frozen BK340.out 1
                  have hfz22_2 := blk_frozen BK340.out 2
                  have hfz22_3 := blk_frozen BK340.out 3
                  have hfz22_4 := blk_frozen BK340.out 4
                  have hfz22_5 := blk_frozen BK340.out 5
                  have hfz22_6 := blk_frozen BK340.out 6
                  have hfz22_7 := blk_frozen BK340.out 7
                  go_wp2_with (first | ((with_reducible refine gate_builtin (b := .append) (xs := #[.const (.slice none 0 0), .tmp 25]) rfl ?_); at_builtin; refine Kd.N_append_rows k26 (w0 := w) w.heap.size rfl (.const (.slice none 0 0)) (.tmp 25) 24 26 (.agg #[(.int .i64 0), (.string ⟨#[]⟩), (.int .i64 0), (.int .i64 0), (.string ⟨#[]⟩), (.string ⟨#[]⟩), (.string ⟨#[]⟩), (.slice none 0 0)]) 112 rfl Tryd.underlying24 info26 rfl (by decide) (by omega) (.slice none 0 0) ([] : List (S26)) t337 _ _ _ (fun k_ => k_ ≠ gb340) (fun k_ => ((fun k_ => k_ ≠ gb340)) k_ ∧ some k_ ≠ (.slice none 0 0 : Value).ownBlock) rfl rfl ?aO ?aR (fun _ hk => hk) ?aF ?aB ?aS ?aL ?_; (case aR => exact (by skip; exact Kd.N_F (Kd.N_mono (ok' := (fun k_ => ((fun k_ => k_ ≠ gb340)) k_ ∧ some k_ ≠ (.slice none 0 0 : Value).ownBlock)) (HO_341007.out) (fun k_ hk => ⟨hk, (by simp [Value.ownBlock])⟩)))); (case aB => exact (by repeat (first | (with_reducible first | exact HB.out | apply below_alloc | apply pw_below_drewN | apply below_drew1 | refine below_set ?_ GE340.out) | exact HB.out))); (case aF => exact (fun k_ hk => Kd.freshB (g := gb340) (o := .cells #[.int .i64 t330, .string t331, .int .i64 t332, .int .i64 t333, .string t334, .string t335, .string t336, .slice Ao14 t337.length co14] 26 (0, 0)) (by (with_reducible repeat (first | refine blk_drewN ?_ _ | refine blk_drew ?_ | refine blk_alloc ?_ _)); exact BK340.out) k_ hk)); (case aO => exact ((Kd.N_nil _ _ _ _ (fun k_ => k_ ≠ gb340)))); (case aS => exact (below_size (by repeat (first | (with_reducible first | exact HB.out | apply below_alloc | apply pw_below_drewN | apply below_drew1 | refine below_set ?_ GE340.out) | exact HB.out)))); (case aL => have := LMc19.out; omega); intro v343 w23 ho hb hg hat; rw [← Ny342.out] at ho; have n0_ := Aside0.mk (Kd.N_afterv (Kd.N_apart_nil (by (with_reducible repeat (first | apply Kd.N_alloc | apply Kd.N_drewN | apply Kd.N_drew)); exact HO_341007.out)) hg hat); have n1_ := Aside0.mk (blk_grown (g := gb340) (o := .cells #[.int .i64 t330, .string t331, .int .i64 t332, .int .i64 t333, .string t334, .string t335, .string t336, .slice Ao14 t337.length co14] 26 (0, 0)) (by (with_reducible repeat (first | refine blk_drewN ?_ _ | refine blk_drew ?_ | refine blk_alloc ?_ _)); exact BK340.out) hg (by simp [Value.ownBlock])); have n2_ := Aside0.mk (hb); have n3_ := Aside0.mk (ho); clear HO_341007; clear BK340; clear HB; have HO_341007 := n0_; have BK340 := n1_; have HB := n2_; have HO344 := n3_; clear n0_ n1_ n2_ n3_; clear ho hb hg hat) | ((with_reducible refine gate_callee (f := 28) rfl ?_); refine goesL_ (some 27) rfl rfl Tryd.func28 (by kernel_rfl) rfl #[.int .i64 1] rfl (by (try simp only [List.map_toArray, List.map_cons, List.map_nil]); first | done | rfl | (simp only [List.length_drop, List.length_take]; rfl)) ?_; (with_reducible refine (marshallinglaw07_lit.calls 1 t345 t346 t347 t348 t349 t350 t351 t352 _ A20.out).mono ?_); clear A20; rintro e w24 ⟨v353, rfl, ho0, hb⟩; refine ⟨_, rfl, ?_⟩; have n0_ := Aside0.mk (Kd.N_elder' (by (with_reducible repeat (first | apply Kd.N_alloc | apply Kd.N_drewN | apply Kd.N_drew)); exact HO_341007.out) (Kd.R_base ho0) hb); have n1_ := Aside0.mk (Kd.N_elder' (by (with_reducible repeat (first | apply Kd.N_alloc | apply Kd.N_drewN | apply Kd.N_drew)); exact HO344.out) (Kd.R_base ho0) hb); have n2_ := Aside0.mk (Kd.N_lower (Kd.N_mono (ok' := fun k_ => some k_ ≠ (.slice Ao14 t337.length co14 : Value).ownBlock ∧ some k_ ≠ (v343 : Value).ownBlock ∧ k_ ≠ gb340) (Kd.R_N (Kd.R_bound ho0)) (fun k_ hk_ => ⟨(Kd.fresh' (Kd.N_lt (by (with_reducible repeat (first | apply Kd.N_alloc | apply Kd.N_drewN | apply Kd.N_drew)); exact HO_341007.out)) k_ hk_.2.1), (Kd.fresh' (Kd.N_lt (by (with_reducible repeat (first | apply Kd.N_alloc | apply Kd.N_drewN | apply Kd.N_drew)); exact HO344.out)) k_ hk_.2.1), (Kd.freshB (g := gb340) (o := .cells #[.int .i64 t330, .string t331, .int .i64 t332, .int .i64 t333, .string t334, .string t335, .string t336, .slice Ao14 t337.length co14] 26 (0, 0)) (by (with_reducible repeat (first | refine blk_drewN ?_ _ | refine blk_drew ?_ | refine blk_alloc ?_ _)); exact BK340.out) k_ hk_.2.1)⟩)) (below_size (by repeat (first | (with_reducible first | exact HB.out | apply below_alloc | apply pw_below_drewN | apply below_drew1 | refine below_set ?_ GE340.out) | exact HB.out)))); have n3_ := Aside0.mk (blk_below (g := gb340) (o := .cells #[.int .i64 t330, .string t331, .int .i64 t332, .int .i64 t333, .string t334, .string t335, .string t336, .slice Ao14 t337.length co14] 26 (0, 0)) (by (with_reducible repeat (first | refine blk_drewN ?_ _ | refine blk_drew ?_ | refine blk_alloc ?_ _)); exact BK340.out) hb); have n4_ := Aside0.mk (below_step (by repeat (first | (with_reducible first | exact HB.out | apply below_alloc | apply pw_below_drewN | apply below_drew1 | refine below_set ?_ GE340.out) | exact HB.out)) hb); clear HO_341007; clear HO344; clear BK340; clear HB; have HO_341007 := n0_; have HO344 := n1_; have HO354 := n2_; have BK340 := n3_; have HB := n4_; clear n0_ n1_ n2_ n3_ n4_; (try clear hb); (try clear hb2); (try clear hk); (try clear hi); (try clear ho0); obtain ⟨Ao26, co26, eo26⟩ := Kd.N_slice HO354.out; subst eo26) | ((with_reducible refine gate_builtin (b := .append) (xs := #[.tmp 26, .tmp 28]) rfl ?_); at_builtin; refine Kd.N_append k26 (w0 := w) w.heap.size rfl (.tmp 26) (.tmp 28) 24 26 (.agg #[(.int .i64 0), (.string ⟨#[]⟩), (.int .i64 0), (.int .i64 0), (.string ⟨#[]⟩), (.string ⟨#[]⟩), (.string ⟨#[]⟩), (.slice none 0 0)]) 112 rfl Tryd.underlying24 info26 rfl (by decide) (by omega) v343 y342 (⟨t345, t346, (⟨t347, t348, t349⟩ : S23), t350, t351, t352⟩ : S26) [.int .i64 t345, .string t346, .int .i64 t347, .int .i64 t348, .string t349, .string t350, .string t351, .slice Ao26 t352.length co26] (fun k_ => k_ ≠ gb340) (fun k_ => ((fun k_ => k_ ≠ gb340)) k_ ∧ some k_ ≠ (v343 : Value).ownBlock) rfl rfl ?aP (fun _ hk => hk) ?aF ?aO ?aB ?aS ?aL ?_; (case aP => exact (k26_mkF _ _ (⟨t345, t346, (⟨t347, t348, t349⟩ : S23), t350, t351, t352⟩ : S26) (Kd.N_reads' (Kd.N_mono (ok' := (fun k_ => ((fun k_ => k_ ≠ gb340)) k_ ∧ some k_ ≠ (v343 : Value).ownBlock)) (HO354.out) (fun k_ hk => ⟨hk.2.2, hk.2.1⟩))).2.1 (Kd.N_F (Kd.N_mono (ok' := (fun k_ => ((fun k_ => k_ ≠ gb340)) k_ ∧ some k_ ≠ (v343 : Value).ownBlock)) (HO354.out) (fun k_ hk => ⟨hk.2.2, hk.2.1⟩))))); (case aB => exact (by repeat (first | (with_reducible first | exact HB.out | apply below_alloc | apply pw_below_drewN | apply below_drew1 | refine below_set ?_ GE340.out) | exact HB.out))); (case aF => exact (fun k_ hk => Kd.freshB (g := gb340) (o := .cells #[.int .i64 t330, .string t331, .int .i64 t332, .int .i64 t333, .string t334, .string t335, .string t336, .slice Ao14 t337.length co14] 26 (0, 0)) (by (with_reducible repeat (first | refine blk_drewN ?_ _ | refine blk_drew ?_ | refine blk_alloc ?_ _)); exact BK340.out) k_ hk)); (case aO => exact (by (with_reducible repeat (first | apply Kd.N_alloc | apply Kd.N_drewN | apply Kd.N_drew)); exact Kd.N_mono HO344.out (fun _ hk => hk.1))); (case aS => exact (below_size (by repeat (first | (with_reducible first | exact HB.out | apply below_alloc | apply pw_below_drewN | apply below_drew1 | refine below_set ?_ GE340.out) | exact HB.out)))); (case aL => have := LMc21.out; omega); intro v356 w25 ho hb hg hat; rw [← Ny355.out] at ho; have n0_ := Aside0.mk (Kd.N_afterv (ok := (fun k_ => some k_ ≠ (.slice Ao26 t352.length co26 : Value).ownBlock ∧ k_ ≠ gb340)) (by (with_reducible repeat (first | apply Kd.N_alloc | apply Kd.N_drewN | apply Kd.N_drew)); exact Kd.N_mono HO_341007.out (fun _ hk => ⟨⟨hk.2, hk.1.1⟩, hk.1.2⟩)) hg hat); have n1_ := Aside0.mk (blk_grown (g := gb340) (o := .cells #[.int .i64 t330, .string t331, .int .i64 t332, .int .i64 t333, .string t334, .string t335, .string t336, .slice Ao14 t337.length co14] 26 (0, 0)) (by (with_reducible repeat (first | refine blk_drewN ?_ _ | refine blk_drew ?_ | refine blk_alloc ?_ _)); exact BK340.out) hg (Kd.N_away HO344.out (fun _ hk => hk.1))); have n2_ := Aside0.mk (hb); have n3_ := Aside0.mk (ho); clear HO_341007; clear BK340; clear HB; clear HO344; clear HO354; have HO_341007 := n0_; have BK340 := n1_; have HB := n2_; have HO357 := n3_; clear n0_ n1_ n2_ n3_; clear ho hb hg hat; obtain ⟨Ao27, co27, eo27⟩ := Kd.N_slice HO357.out; subst eo27; have hcz28_0 : w25.cell? ⟨gb340, 0, none⟩ = some (.int .i64 t330) := (blk_cell BK340.out 0).trans rfl; have hcz28_1 : w25.cell? ⟨gb340, 1, none⟩ = some (.string t331) := (blk_cell BK340.out 1).trans rfl; have hcz28_2 : w25.cell? ⟨gb340, 2, none⟩ = some (.int .i64 t332) := (blk_cell BK340.out 2).trans rfl; have hcz28_3 : w25.cell? ⟨gb340, 3, none⟩ = some (.int .i64 t333) := (blk_cell BK340.out 3).trans rfl; have hcz28_4 : w25.cell? ⟨gb340, 4, none⟩ = some (.string t334) := (blk_cell BK340.out 4).trans rfl; have hcz28_5 : w25.cell? ⟨gb340, 5, none⟩ = some (.string t335) := (blk_cell BK340.out 5).trans rfl; have hcz28_6 : w25.cell? ⟨gb340, 6, none⟩ = some (.string t336) := (blk_cell BK340.out 6).trans rfl; have hcz28_7 : w25.cell? ⟨gb340, 7, none⟩ = some (.slice Ao14 t337.length co14) := (blk_cell BK340.out 7).trans rfl; have hfz28_0 := blk_frozen BK340.out 0; have hfz28_1 := blk_frozen BK340.out 1; have hfz28_2 := blk_frozen BK340.out 2; have hfz28_3 := blk_frozen BK340.out 3; have hfz28_4 := blk_frozen BK340.out 4; have hfz28_5 := blk_frozen BK340.out 5; have hfz28_6 := blk_frozen BK340.out 6; have hfz28_7 := blk_frozen BK340.out 7))
                  go_meet
                  case rel => exact ⟨_, (t330), (t331), (t332), (t333), (t334), (t335), (t336), (y355), (.slice Ao27 y355.length co27), H', ⟨by have := HJ8.out; first | omega | exact Nat.le_refl _⟩, ⟨by (with_reducible repeat (first | apply Kd.N_alloc | apply Kd.N_drewN | apply Kd.N_drew)); exact Kd.N_mono (Kd.N_far (p := ⟨gb340, 7, none⟩) (Kd.N_mono HO357.out (fun k_ hk => (⟨hk, hk⟩ : _ ∧ k_ ≠ gb340))) (fun _ hk => hk.2) (.slice Ao27 y355.length co27)) (fun _ hk => hk.1)⟩, ⟨by (with_reducible repeat (first | refine blk_drewN ?_ _ | refine blk_drew ?_ | refine blk_alloc ?_ _)); refine blk_put (cs := #[.int .i64 t330, .string t331, .int .i64 t332, .int .i64 t333, .string t334, .string t335, .string t336, .slice Ao14 t337.length co14]) ?_ 7 _ rfl; (with_reducible repeat (first | refine blk_drewN ?_ _ | refine blk_drew ?_ | refine blk_alloc ?_ _)); exact BK340.out⟩, ⟨by repeat (first | (with_reducible first | exact HB.out | apply below_alloc | apply pw_below_drewN | apply below_drew1 | refine below_set ?_ GE340.out) | exact HB.out)⟩⟩
                · rw [if_neg c21] at H
                  exact absurd H (by simp)
              · rw [if_neg c19] at H
                exact absurd H (by simp)
            · rw [if_neg c18] at H
              have c18b0 : ((Int.tmod a1 6) == 0) = false := beq_eq_false_iff_ne.mpr c18
              have c18b1 : ((Int.tmod a1 6) != 0) = true := bne_iff_ne.mpr c18
              (first | rw [c18b0] | (simp only [i64_w, i32_w]; rw [c18b0]) | skip)
              by_cases c29 : (Int.tmod a1 6) = 1
              · rw [if_pos c29] at H
                have c29b0 : ((Int.tmod a1 6) == 1) = true := beq_iff_eq.mpr c29
                have c29b1 : ((Int.tmod a1 6) != 1) = false := bne_eq_false_iff_eq.mpr c29
                clear c29
                by_cases c30 : t330 < 3
                · rw [if_pos c30] at H
                  have c30b0 : decide (t330 < 3) = true := decide_eq_true c30
                  clear c30
                  have H' := Aside0.mk H
                  clear H
                  have hcz31_0 : wc.cell? ⟨gb340, 0, none⟩ = some (.int .i64 t330) := (blk_cell BK340.out 0).trans rfl
                  have hcz31_1 : wc.cell? ⟨gb340, 1, none⟩ = some (.string t331) := (blk_cell BK340.out 1).trans rfl
                  have hcz31_2 : wc.cell? ⟨gb340, 2, none⟩ = some (.int .i64 t332) := (blk_cell BK340.out 2).trans rfl
                  have hcz31_3 : wc.cell? ⟨gb340, 3, none⟩ = some (.int .i64 t333) := (blk_cell BK340.out 3).trans rfl
                  have hcz31_4 : wc.cell? ⟨gb340, 4, none⟩ = some (.string t334) := (blk_cell BK340.out 4).trans rfl
                  have hcz31_5 : wc.cell? ⟨gb340, 5, none⟩ = some (.string t335) := (blk_cell BK340.out 5).trans rfl
                  have hcz31_6 : wc.cell? ⟨gb340, 6, none⟩ = some (.string t336) := (blk_cell BK340.out 6).trans rfl
                  have hcz31_7 : wc.cell? ⟨gb340, 7, none⟩ = some (.slice Ao14 t337.length co14) := (blk_cell BK340.out 7).trans rfl
                  have hfz31_0 := blk_frozen BK340.out 0
                  have hfz31_1 := blk_frozen BK340.out 1
                  have hfz31_2 := blk_frozen BK340.out 2
                  have hfz31_3 := blk_frozen BK340.out 3
                  have hfz31_4 := blk_frozen BK340.out 4
                  have hfz31_5 := blk_frozen BK340.out 5
                  have hfz31_6 := blk_frozen BK340.out 6
                  have hfz31_7 := blk_frozen BK340.out 7
                  go_wp2
                  go_meet
                  case rel => exact ⟨_, (t330), (x2_8), (t332), (t333), (t334), (t335), (t336), (t337), (.slice Ao14 t337.length co14), H', ⟨by have := HJ8.out; first | omega | exact Nat.le_refl _⟩, ⟨by (with_reducible repeat (first | apply Kd.N_alloc | apply Kd.N_drewN | apply Kd.N_drew)); exact Kd.N_mono (Kd.N_far (p := ⟨gb340, 1, none⟩) (Kd.N_mono HO_341007.out (fun k_ hk => (⟨hk, hk⟩ : _ ∧ k_ ≠ gb340))) (fun _ hk => hk.2) (.string x2_8)) (fun _ hk => hk.1)⟩, ⟨by (with_reducible repeat (first | refine blk_drewN ?_ _ | refine blk_drew ?_ | refine blk_alloc ?_ _)); refine blk_put (cs := #[.int .i64 t330, .string t331, .int .i64 t332, .int .i64 t333, .string t334, .string t335, .string t336, .slice Ao14 t337.length co14]) ?_ 1 _ rfl; (with_reducible repeat (first | refine blk_drewN ?_ _ | refine blk_drew ?_ | refine blk_alloc ?_ _)); exact BK340.out⟩, ⟨by repeat (first | (with_reducible first | exact HB.out | apply below_alloc | apply pw_below_drewN | apply below_drew1 | refine below_set ?_ GE340.out) | exact HB.out)⟩⟩
                · rw [if_neg c30] at H
                  have c30b0 : decide (t330 < 3) = false := decide_eq_false c30
                  clear c30
                  have H' := Aside0.mk H
                  clear H
                  have hcz32_0 : wc.cell? ⟨gb340, 0, none⟩ = some (.int .i64 t330) := (blk_cell BK340.out 0).trans rfl
                  have hcz32_1 : wc.cell? ⟨gb340, 1, none⟩ = some (.string t331) := (blk_cell BK340.out 1).trans rfl
                  have hcz32_2 : wc.cell? ⟨gb340, 2, none⟩ = some (.int .i64 t332) := (blk_cell BK340.out 2).trans rfl
                  have hcz32_3 : wc.cell? ⟨gb340, 3, none⟩ = some (.int .i64 t333) := (blk_cell BK340.out 3).trans rfl
                  have hcz32_4 : wc.cell? ⟨gb340, 4, none⟩ = some (.string t334) := (blk_cell BK340.out 4).trans rfl
                  have hcz32_5 : wc.cell? ⟨gb340, 5, none⟩ = some (.string t335) := (blk_cell BK340.out 5).trans rfl
                  have hcz32_6 : wc.cell? ⟨gb340, 6, none⟩ = some (.string t336) := (blk_cell BK340.out 6).trans rfl
                  have hcz32_7 : wc.cell? ⟨gb340, 7, none⟩ = some (.slice Ao14 t337.length co14) := (blk_cell BK340.out 7).trans rfl
                  have hfz32_0 := blk_frozen BK340.out 0
                  have hfz32_1 := blk_frozen BK340.out 1
                  have hfz32_2 := blk_frozen BK340.out 2
                  have hfz32_3 := blk_frozen BK340.out 3
                  have hfz32_4 := blk_frozen BK340.out 4
                  have hfz32_5 := blk_frozen BK340.out 5
                  have hfz32_6 := blk_frozen BK340.out 6
                  have hfz32_7 := blk_frozen BK340.out 7
                  go_wp2
                  go_meet
                  case rel => exact ⟨_, (t330), (t331), (t332), (t333), (t334), (x2_8), (t336), (t337), (.slice Ao14 t337.length co14), H', ⟨by have := HJ8.out; first | omega | exact Nat.le_refl _⟩, ⟨by (with_reducible repeat (first | apply Kd.N_alloc | apply Kd.N_drewN | apply Kd.N_drew)); exact Kd.N_mono (Kd.N_far (p := ⟨gb340, 5, none⟩) (Kd.N_mono HO_341007.out (fun k_ hk => (⟨hk, hk⟩ : _ ∧ k_ ≠ gb340))) (fun _ hk => hk.2) (.string x2_8)) (fun _ hk => hk.1)⟩, ⟨by (with_reducible repeat (first | refine blk_drewN ?_ _ | refine blk_drew ?_ | refine blk_alloc ?_ _)); refine blk_put (cs := #[.int .i64 t330, .string t331, .int .i64 t332, .int .i64 t333, .string t334, .string t335, .string t336, .slice Ao14 t337.length co14]) ?_ 5 _ rfl; (with_reducible repeat (first | refine blk_drewN ?_ _ | refine blk_drew ?_ | refine blk_alloc ?_ _)); exact BK340.out⟩, ⟨by repeat (first | (with_reducible first | exact HB.out | apply below_alloc | apply pw_below_drewN | apply below_drew1 | refine below_set ?_ GE340.out) | exact HB.out)⟩⟩
              · rw [if_neg c29] at H
                have c29b0 : ((Int.tmod a1 6) == 1) = false := beq_eq_false_iff_ne.mpr c29
                have c29b1 : ((Int.tmod a1 6) != 1) = true := bne_iff_ne.mpr c29
                by_cases c33 : (Int.tmod a1 6) = 2
                · rw [if_pos c33] at H
                  have c33b0 : ((Int.tmod a1 6) == 2) = true := beq_iff_eq.mpr c33
                  have c33b1 : ((Int.tmod a1 6) != 2) = false := bne_eq_false_iff_eq.mpr c33
                  clear c33
                  by_cases c34 : t330 = 0
                  · rw [if_pos c34] at H
                    have c34b0 : (t330 == 0) = true := beq_iff_eq.mpr c34
                    have c34b1 : (t330 != 0) = false := bne_eq_false_iff_eq.mpr c34
                    clear c34
                    have H' := Aside0.mk H
                    clear H
                    have hcz35_0 : wc.cell? ⟨gb340, 0, none⟩ = some (.int .i64 t330) := (blk_cell BK340.out 0).trans rfl
                    have hcz35_1 : wc.cell? ⟨gb340, 1, none⟩ = some (.string t331) := (blk_cell BK340.out 1).trans rfl
                    have hcz35_2 : wc.cell? ⟨gb340, 2, none⟩ = some (.int .i64 t332) := (blk_cell BK340.out 2).trans rfl
                    have hcz35_3 : wc.cell? ⟨gb340, 3, none⟩ = some (.int .i64 t333) := (blk_cell BK340.out 3).trans rfl
                    have hcz35_4 : wc.cell? ⟨gb340, 4, none⟩ = some (.string t334) := (blk_cell BK340.out 4).trans rfl
                    have hcz35_5 : wc.cell? ⟨gb340, 5, none⟩ = some (.string t335) := (blk_cell BK340.out 5).trans rfl
                    have hcz35_6 : wc.cell? ⟨gb340, 6, none⟩ = some (.string t336) := (blk_cell BK340.out 6).trans rfl
                    have hcz35_7 : wc.cell? ⟨gb340, 7, none⟩ = some (.slice Ao14 t337.length co14) := (blk_cell BK340.out 7).trans rfl
                    have hfz35_0 := blk_frozen BK340.out 0
                    have hfz35_1 := blk_frozen BK340.out 1
                    have hfz35_2 := blk_frozen BK340.out 2
                    have hfz35_3 := blk_frozen BK340.out 3
                    have hfz35_4 := blk_frozen BK340.out 4
                    have hfz35_5 := blk_frozen BK340.out 5
                    have hfz35_6 := blk_frozen BK340.out 6
                    have hfz35_7 := blk_frozen BK340.out 7
                    go_wp2
                    go_meet
                    case rel => exact ⟨_, (t330), (t331), (t332), ((-1)), (t334), (t335), (t336), (t337), (.slice Ao14 t337.length co14), H', ⟨by have := HJ8.out; first | omega | exact Nat.le_refl _⟩, ⟨by (with_reducible repeat (first | apply Kd.N_alloc | apply Kd.N_drewN | apply Kd.N_drew)); exact Kd.N_mono (Kd.N_far (p := ⟨gb340, 3, none⟩) (Kd.N_mono HO_341007.out (fun k_ hk => (⟨hk, hk⟩ : _ ∧ k_ ≠ gb340))) (fun _ hk => hk.2) (.int .i64 (-1))) (fun _ hk => hk.1)⟩, ⟨by (with_reducible repeat (first | refine blk_drewN ?_ _ | refine blk_drew ?_ | refine blk_alloc ?_ _)); refine blk_put (cs := #[.int .i64 t330, .string t331, .int .i64 t332, .int .i64 t333, .string t334, .string t335, .string t336, .slice Ao14 t337.length co14]) ?_ 3 _ rfl; (with_reducible repeat (first | refine blk_drewN ?_ _ | refine blk_drew ?_ | refine blk_alloc ?_ _)); exact BK340.out⟩, ⟨by repeat (first | (with_reducible first | exact HB.out | apply below_alloc | apply pw_below_drewN | apply below_drew1 | refine below_set ?_ GE340.out) | exact HB.out)⟩⟩
                  · rw [if_neg c34] at H
                    have c34b0 : (t330 == 0) = false := beq_eq_false_iff_ne.mpr c34
                    have c34b1 : (t330 != 0) = true := bne_iff_ne.mpr c34
                    have H' := Aside0.mk H
                    clear H
                    have hcz36_0 : wc.cell? ⟨gb340, 0, none⟩ = some (.int .i64 t330) := (blk_cell BK340.out 0).trans rfl
                    have hcz36_1 : wc.cell? ⟨gb340, 1, none⟩ = some (.string t331) := (blk_cell BK340.out 1).trans rfl
                    have hcz36_2 : wc.cell? ⟨gb340, 2, none⟩ = some (.int .i64 t332) := (blk_cell BK340.out 2).trans rfl
                    have hcz36_3 : wc.cell? ⟨gb340, 3, none⟩ = some (.int .i64 t333) := (blk_cell BK340.out 3).trans rfl
                    have hcz36_4 : wc.cell? ⟨gb340, 4, none⟩ = some (.string t334) := (blk_cell BK340.out 4).trans rfl
                    have hcz36_5 : wc.cell? ⟨gb340, 5, none⟩ = some (.string t335) := (blk_cell BK340.out 5).trans rfl
                    have hcz36_6 : wc.cell? ⟨gb340, 6, none⟩ = some (.string t336) := (blk_cell BK340.out 6).trans rfl
                    have hcz36_7 : wc.cell? ⟨gb340, 7, none⟩ = some (.slice Ao14 t337.length co14) := (blk_cell BK340.out 7).trans rfl
                    have hfz36_0 := blk_frozen BK340.out 0
                    have hfz36_1 := blk_frozen BK340.out 1
                    have hfz36_2 := blk_frozen BK340.out 2
                    have hfz36_3 := blk_frozen BK340.out 3
                    have hfz36_4 := blk_frozen BK340.out 4
                    have hfz36_5 := blk_frozen BK340.out 5
                    have hfz36_6 := blk_frozen BK340.out 6
                    have hfz36_7 := blk_frozen BK340.out 7
                    go_wp2
                    go_meet
                    case rel => exact ⟨_, (t330), (t331), (1), (0), ((⟨#[]⟩ : ByteArray)), (t335), (t336), (t337), (.slice Ao14 t337.length co14), H', ⟨by have := HJ8.out; first | omega | exact Nat.le_refl _⟩, ⟨by (with_reducible repeat (first | apply Kd.N_alloc | apply Kd.N_drewN | apply Kd.N_drew)); exact Kd.N_mono (Kd.N_far (p := ⟨gb340, 4, none⟩) (Kd.N_far (p := ⟨gb340, 3, none⟩) (Kd.N_far (p := ⟨gb340, 2, none⟩) (Kd.N_mono HO_341007.out (fun k_ hk => (⟨hk, hk⟩ : _ ∧ k_ ≠ gb340))) (fun _ hk => hk.2) (.int .i64 1)) (fun _ hk => hk.2) (.int .i64 0)) (fun _ hk => hk.2) (.string (⟨#[]⟩ : ByteArray))) (fun _ hk => hk.1)⟩, ⟨by (with_reducible repeat (first | refine blk_drewN ?_ _ | refine blk_drew ?_ | refine blk_alloc ?_ _)); refine blk_put (cs := #[.int .i64 t330, .string t331, .int .i64 1, .int .i64 0, .string t334, .string t335, .string t336, .slice Ao14 t337.length co14]) ?_ 4 _ rfl; (with_reducible repeat (first | refine blk_drewN ?_ _ | refine blk_drew ?_ | refine blk_alloc ?_ _)); refine blk_put (cs := #[.int .i64 t330, .string t331, .int .i64 1, .int .i64 t333, .string t334, .string t335, .string t336, .slice Ao14 t337.length co14]) ?_ 3 _ rfl; (with_reducible repeat (first | refine blk_drewN ?_ _ | refine blk_drew ?_ | refine blk_alloc ?_ _)); refine blk_put (cs := #[.int .i64 t330, .string t331, .int .i64 t332, .int .i64 t333, .string t334, .string t335, .string t336, .slice Ao14 t337.length co14]) ?_ 2 _ rfl; (with_reducible repeat (first | refine blk_drewN ?_ _ | refine blk_drew ?_ | refine blk_alloc ?_ _)); exact BK340.out⟩, ⟨by repeat (first | (with_reducible first | exact HB.out | apply below_alloc | apply pw_below_drewN | apply below_drew1 | refine below_set ?_ GE340.out) | exact HB.out)⟩⟩
                · rw [if_neg c33] at H
                  have c33b0 : ((Int.tmod a1 6) == 2) = false := beq_eq_false_iff_ne.mpr c33
                  have c33b1 : ((Int.tmod a1 6) != 2) = true := bne_iff_ne.mpr c33
                  by_cases c37 : (Int.tmod a1 6) = 3
                  · rw [if_pos c37] at H
                    have c37b0 : ((Int.tmod a1 6) == 3) = true := beq_iff_eq.mpr c37
                    have c37b1 : ((Int.tmod a1 6) != 3) = false := bne_eq_false_iff_eq.mpr c37
                    clear c37
                    by_cases c38 : t330 = 1
                    · rw [if_pos c38] at H
                      have c38b0 : (t330 == 1) = true := beq_iff_eq.mpr c38
                      have c38b1 : (t330 != 1) = false := bne_eq_false_iff_eq.mpr c38
                      clear c38
                      by_cases c39 : 1 + x2_8.size ≤ 9223372036854775807
                      · rw [if_pos c39] at H
                        have c39b0 := eq_true c39
                        have c39b1 : decide (1 + x2_8.size ≤ 9223372036854775807) = true := decide_eq_true c39
                        try have c39b2 : (9223372036854775807 < 1 + x2_8.size) = False := eq_false (Nat.not_lt.2 c39)
                        have H' := Aside0.mk H
                        clear H
                        have hcz40_0 : wc.cell? ⟨gb340, 0, none⟩ = some (.int .i64 t330) := (blk_cell BK340.out 0).trans rfl
                        have hcz40_1 : wc.cell? ⟨gb340, 1, none⟩ = some (.string t331) := (blk_cell BK340.out 1).trans rfl
                        have hcz40_2 : wc.cell? ⟨gb340, 2, none⟩ = some (.int .i64 t332) := (blk_cell BK340.out 2).trans rfl
                        have hcz40_3 : wc.cell? ⟨gb340, 3, none⟩ = some (.int .i64 t333) := (blk_cell BK340.out 3).trans rfl
                        have hcz40_4 : wc.cell? ⟨gb340, 4, none⟩ = some (.string t334) := (blk_cell BK340.out 4).trans rfl
                        have hcz40_5 : wc.cell? ⟨gb340, 5, none⟩ = some (.string t335) := (blk_cell BK340.out 5).trans rfl
                        have hcz40_6 : wc.cell? ⟨gb340, 6, none⟩ = some (.string t336) := (blk_cell BK340.out 6).trans rfl
                        have hcz40_7 : wc.cell? ⟨gb340, 7, none⟩ = some (.slice Ao14 t337.length co14) := (blk_cell BK340.out 7).trans rfl
                        have hfz40_0 := blk_frozen BK340.out 0
                        have hfz40_1 := blk_frozen BK340.out 1
                        have hfz40_2 := blk_frozen BK340.out 2
                        have hfz40_3 := blk_frozen BK340.out 3
                        have hfz40_4 := blk_frozen BK340.out 4
                        have hfz40_5 := blk_frozen BK340.out 5
                        have hfz40_6 := blk_frozen BK340.out 6
                        have hfz40_7 := blk_frozen BK340.out 7
                        go_wp2
                        go_meet
                        case rel => exact ⟨_, (t330), (t331), (t332), (t333), (t334), (t335), ((⟨#[57]⟩ : ByteArray) ++ x2_8), (t337), (.slice Ao14 t337.length co14), H', ⟨by have := HJ8.out; first | omega | exact Nat.le_refl _⟩, ⟨by (with_reducible repeat (first | apply Kd.N_alloc | apply Kd.N_drewN | apply Kd.N_drew)); exact Kd.N_mono (Kd.N_far (p := ⟨gb340, 6, none⟩) (Kd.N_mono HO_341007.out (fun k_ hk => (⟨hk, hk⟩ : _ ∧ k_ ≠ gb340))) (fun _ hk => hk.2) (.string ((⟨#[57]⟩ : ByteArray) ++ x2_8))) (fun _ hk => hk.1)⟩, ⟨by (with_reducible repeat (first | refine blk_drewN ?_ _ | refine blk_drew ?_ | refine blk_alloc ?_ _)); refine blk_put (cs := #[.int .i64 t330, .string t331, .int .i64 t332, .int .i64 t333, .string t334, .string t335, .string t336, .slice Ao14 t337.length co14]) ?_ 6 _ rfl; (with_reducible repeat (first | refine blk_drewN ?_ _ | refine blk_drew ?_ | refine blk_alloc ?_ _)); exact BK340.out⟩, ⟨by repeat (first | (with_reducible first | exact HB.out | apply below_alloc | apply pw_below_drewN | apply below_drew1 | refine below_set ?_ GE340.out) | exact HB.out)⟩⟩
                      · rw [if_neg c39] at H
                        exact absurd H (by simp)
                    · rw [if_neg c38] at H
                      have c38b0 : (t330 == 1) = false := beq_eq_false_iff_ne.mpr c38
                      have c38b1 : (t330 != 1) = true := bne_iff_ne.mpr c38
                      have H' := Aside0.mk H
                      clear H
                      have hcz41_0 : wc.cell? ⟨gb340, 0, none⟩ = some (.int .i64 t330) := (blk_cell BK340.out 0).trans rfl
                      have hcz41_1 : wc.cell? ⟨gb340, 1, none⟩ = some (.string t331) := (blk_cell BK340.out 1).trans rfl
                      have hcz41_2 : wc.cell? ⟨gb340, 2, none⟩ = some (.int .i64 t332) := (blk_cell BK340.out 2).trans rfl
                      have hcz41_3 : wc.cell? ⟨gb340, 3, none⟩ = some (.int .i64 t333) := (blk_cell BK340.out 3).trans rfl
                      have hcz41_4 : wc.cell? ⟨gb340, 4, none⟩ = some (.string t334) := (blk_cell BK340.out 4).trans rfl
                      have hcz41_5 : wc.cell? ⟨gb340, 5, none⟩ = some (.string t335) := (blk_cell BK340.out 5).trans rfl
                      have hcz41_6 : wc.cell? ⟨gb340, 6, none⟩ = some (.string t336) := (blk_cell BK340.out 6).trans rfl
                      have hcz41_7 : wc.cell? ⟨gb340, 7, none⟩ = some (.slice Ao14 t337.length co14) := (blk_cell BK340.out 7).trans rfl
                      have hfz41_0 := blk_frozen BK340.out 0
                      have hfz41_1 := blk_frozen BK340.out 1
                      have hfz41_2 := blk_frozen BK340.out 2
                      have hfz41_3 := blk_frozen BK340.out 3
                      have hfz41_4 := blk_frozen BK340.out 4
                      have hfz41_5 := blk_frozen BK340.out 5
                      have hfz41_6 := blk_frozen BK340.out 6
                      have hfz41_7 := blk_frozen BK340.out 7
                      go_wp2
                      go_meet
                      case rel => exact ⟨_, (t330), (t331), (t332), (t333), (t334), (t335), (x2_8), (t337), (.slice Ao14 t337.length co14), H', ⟨by have := HJ8.out; first | omega | exact Nat.le_refl _⟩, ⟨by (with_reducible repeat (first | apply Kd.N_alloc | apply Kd.N_drewN | apply Kd.N_drew)); exact Kd.N_mono (Kd.N_far (p := ⟨gb340, 6, none⟩) (Kd.N_mono HO_341007.out (fun k_ hk => (⟨hk, hk⟩ : _ ∧ k_ ≠ gb340))) (fun _ hk => hk.2) (.string x2_8)) (fun _ hk => hk.1)⟩, ⟨by (with_reducible repeat (first | refine blk_drewN ?_ _ | refine blk_drew ?_ | refine blk_alloc ?_ _)); refine blk_put (cs := #[.int .i64 t330, .string t331, .int .i64 t332, .int .i64 t333, .string t334, .string t335, .string t336, .slice Ao14 t337.length co14]) ?_ 6 _ rfl; (with_reducible repeat (first | refine blk_drewN ?_ _ | refine blk_drew ?_ | refine blk_alloc ?_ _)); exact BK340.out⟩, ⟨by repeat (first | (with_reducible first | exact HB.out | apply below_alloc | apply pw_below_drewN | apply below_drew1 | refine below_set ?_ GE340.out) | exact HB.out)⟩⟩
                  · rw [if_neg c37] at H
                    have c37b0 : ((Int.tmod a1 6) == 3) = false := beq_eq_false_iff_ne.mpr c37
                    have c37b1 : ((Int.tmod a1 6) != 3) = true := bne_iff_ne.mpr c37
                    by_cases c42 : (Int.tmod a1 6) = 4
                    · rw [if_pos c42] at H
                      have c42b0 : ((Int.tmod a1 6) == 4) = true := beq_iff_eq.mpr c42
                      have c42b1 : ((Int.tmod a1 6) != 4) = false := bne_eq_false_iff_eq.mpr c42
                      clear c42
                      have H' := Aside0.mk H
                      clear H
                      have hcz43_0 : wc.cell? ⟨gb340, 0, none⟩ = some (.int .i64 t330) := (blk_cell BK340.out 0).trans rfl
                      have hcz43_1 : wc.cell? ⟨gb340, 1, none⟩ = some (.string t331) := (blk_cell BK340.out 1).trans rfl
                      have hcz43_2 : wc.cell? ⟨gb340, 2, none⟩ = some (.int .i64 t332) := (blk_cell BK340.out 2).trans rfl
                      have hcz43_3 : wc.cell? ⟨gb340, 3, none⟩ = some (.int .i64 t333) := (blk_cell BK340.out 3).trans rfl
                      have hcz43_4 : wc.cell? ⟨gb340, 4, none⟩ = some (.string t334) := (blk_cell BK340.out 4).trans rfl
                      have hcz43_5 : wc.cell? ⟨gb340, 5, none⟩ = some (.string t335) := (blk_cell BK340.out 5).trans rfl
                      have hcz43_6 : wc.cell? ⟨gb340, 6, none⟩ = some (.string t336) := (blk_cell BK340.out 6).trans rfl
                      have hcz43_7 : wc.cell? ⟨gb340, 7, none⟩ = some (.slice Ao14 t337.length co14) := (blk_cell BK340.out 7).trans rfl
                      have hfz43_0 := blk_frozen BK340.out 0
                      have hfz43_1 := blk_frozen BK340.out 1
                      have hfz43_2 := blk_frozen BK340.out 2
                      have hfz43_3 := blk_frozen BK340.out 3
                      have hfz43_4 := blk_frozen BK340.out 4
                      have hfz43_5 := blk_frozen BK340.out 5
                      have hfz43_6 := blk_frozen BK340.out 6
                      have hfz43_7 := blk_frozen BK340.out 7
                      go_wp2
                      go_meet
                      case rel => exact ⟨_, (wrap64 ((-1) - t330)), (t331), (t332), (t333), (t334), (t335), (t336), (t337), (.slice Ao14 t337.length co14), H', ⟨by have := HJ8.out; first | omega | exact Nat.le_refl _⟩, ⟨by (with_reducible repeat (first | apply Kd.N_alloc | apply Kd.N_drewN | apply Kd.N_drew)); exact Kd.N_mono (Kd.N_far (p := ⟨gb340, 0, none⟩) (Kd.N_mono HO_341007.out (fun k_ hk => (⟨hk, hk⟩ : _ ∧ k_ ≠ gb340))) (fun _ hk => hk.2) (.int .i64 (wrap64 ((-1) - t330)))) (fun _ hk => hk.1)⟩, ⟨by (with_reducible repeat (first | refine blk_drewN ?_ _ | refine blk_drew ?_ | refine blk_alloc ?_ _)); refine blk_put (cs := #[.int .i64 t330, .string t331, .int .i64 t332, .int .i64 t333, .string t334, .string t335, .string t336, .slice Ao14 t337.length co14]) ?_ 0 _ rfl; (with_reducible repeat (first | refine blk_drewN ?_ _ | refine blk_drew ?_ | refine blk_alloc ?_ _)); exact BK340.out⟩, ⟨by repeat (first | (with_reducible first | exact HB.out | apply below_alloc | apply pw_below_drewN | apply below_drew1 | refine below_set ?_ GE340.out) | exact HB.out)⟩⟩
                    · rw [if_neg c42] at H
                      have c42b0 : ((Int.tmod a1 6) == 4) = false := beq_eq_false_iff_ne.mpr c42
                      have c42b1 : ((Int.tmod a1 6) != 4) = true := bne_iff_ne.mpr c42
                      by_cases c44 : (Int.tmod a1 6) = 5
                      · rw [if_pos c44] at H
                        have c44b0 : ((Int.tmod a1 6) == 5) = true := beq_iff_eq.mpr c44
                        have c44b1 : ((Int.tmod a1 6) != 5) = false := bne_eq_false_iff_eq.mpr c44
                        clear c44
                        replace H := Option.bind_eq_some_iff.mp H
                        obtain ⟨⟨t358, t359, t360, t361, t362, t363, t364, t365⟩, A450, H⟩ := H
                        replace H : (marshallinglaw07_ExprRight.j1 kj8 true t358 t359 t360 t361 t362 t363 t364 t365) = some r := H
                        have A45 := Aside0.mk A450
                        clear A450
                        have H' := Aside0.mk H
                        clear H
                        have hcz46_0 : wc.cell? ⟨gb340, 0, none⟩ = some (.int .i64 t330) := (blk_cell BK340.out 0).trans rfl
                        have hcz46_1 : wc.cell? ⟨gb340, 1, none⟩ = some (.string t331) := (blk_cell BK340.out 1).trans rfl
                        have hcz46_2 : wc.cell? ⟨gb340, 2, none⟩ = some (.int .i64 t332) := (blk_cell BK340.out 2).trans rfl
                        have hcz46_3 : wc.cell? ⟨gb340, 3, none⟩ = some (.int .i64 t333) := (blk_cell BK340.out 3).trans rfl
                        have hcz46_4 : wc.cell? ⟨gb340, 4, none⟩ = some (.string t334) := (blk_cell BK340.out 4).trans rfl
                        have hcz46_5 : wc.cell? ⟨gb340, 5, none⟩ = some (.string t335) := (blk_cell BK340.out 5).trans rfl
                        have hcz46_6 : wc.cell? ⟨gb340, 6, none⟩ = some (.string t336) := (blk_cell BK340.out 6).trans rfl
                        have hcz46_7 : wc.cell? ⟨gb340, 7, none⟩ = some (.slice Ao14 t337.length co14) := (blk_cell BK340.out 7).trans rfl
                        have hfz46_0 := blk_frozen BK340.out 0
                        have hfz46_1 := blk_frozen BK340.out 1
                        have hfz46_2 := blk_frozen BK340.out 2
                        have hfz46_3 := blk_frozen BK340.out 3
                        have hfz46_4 := blk_frozen BK340.out 4
                        have hfz46_5 := blk_frozen BK340.out 5
                        have hfz46_6 := blk_frozen BK340.out 6
                        have hfz46_7 := blk_frozen BK340.out 7
                        go_wp2_with (first | ((with_reducible refine gate_callee (f := 26) rfl ?_); refine goesL_ (some 69) rfl rfl Tryd.func26 (by kernel_rfl) rfl #[.string (⟨#[61]⟩ : ByteArray), .agg #[.int .i64 t330, .string t331, .int .i64 t332, .int .i64 t333, .string t334, .string t335, .string t336, .slice Ao14 t337.length co14], .agg #[.int .i64 t330, .string t331, .int .i64 t332, .int .i64 t333, .string t334, .string t335, .string t336, .slice Ao14 t337.length co14]] rfl (by (try simp only [List.map_toArray, List.map_cons, List.map_nil]); first | done | rfl | (simp only [List.length_drop, List.length_take]; rfl)) ?_; (with_reducible refine (marshallinglaw07_two.calls (⟨#[61]⟩ : ByteArray) t330 t331 t332 t333 t334 t335 t336 (fun k_ => k_ ≠ gb340) _ _ t337 t330 t331 t332 t333 t334 t335 t336 (fun k_ => k_ ≠ gb340) _ _ t337 t358 t359 t360 t361 t362 t363 t364 t365 _ ?side1 ?side2 A45.out).mono ?_); (case side1 => exact Kd.N_V (HO_341007.out)); (case side2 => exact Kd.N_V (HO_341007.out)); clear A45; rintro e w47 ⟨v366, rfl, ho0, hb⟩; refine ⟨_, rfl, ?_⟩; have n0_ := Aside0.mk (Kd.N_elder' (by (with_reducible repeat (first | apply Kd.N_alloc | apply Kd.N_drewN | apply Kd.N_drew)); exact HO_341007.out) (Kd.N_base ho0) hb); have n1_ := Aside0.mk (Kd.N_lower (Kd.N_mono (ok' := fun k_ => k_ ≠ gb340) ho0 (fun k_ hk_ => Or.elim hk_ (fun hs_ => Or.elim hs_ (fun hs_ => hs_) (fun hs_ => hs_)) (fun hn_ => (Kd.freshB (g := gb340) (o := .cells #[.int .i64 t330, .string t331, .int .i64 t332, .int .i64 t333, .string t334, .string t335, .string t336, .slice Ao14 t337.length co14] 26 (0, 0)) (by (with_reducible repeat (first | refine blk_drewN ?_ _ | refine blk_drew ?_ | refine blk_alloc ?_ _)); exact BK340.out) k_ hn_)))) (below_size (by repeat (first | (with_reducible first | exact HB.out | apply below_alloc | apply pw_below_drewN | apply below_drew1 | refine below_set ?_ GE340.out) | exact HB.out)))); have n2_ := Aside0.mk (blk_below (g := gb340) (o := .cells #[.int .i64 t330, .string t331, .int .i64 t332, .int .i64 t333, .string t334, .string t335, .string t336, .slice Ao14 t337.length co14] 26 (0, 0)) (by (with_reducible repeat (first | refine blk_drewN ?_ _ | refine blk_drew ?_ | refine blk_alloc ?_ _)); exact BK340.out) hb); have n3_ := Aside0.mk (below_step (by repeat (first | (with_reducible first | exact HB.out | apply below_alloc | apply pw_below_drewN | apply below_drew1 | refine below_set ?_ GE340.out) | exact HB.out)) hb); clear HO_341007; clear BK340; clear HB; have HO_341007 := n0_; have HO367 := n1_; have BK340 := n2_; have HB := n3_; clear n0_ n1_ n2_ n3_; (try clear hb); (try clear hb2); (try clear hk); (try clear hi); (try clear ho0); have hcz48_0 : w47.cell? ⟨gb340, 0, none⟩ = some (.int .i64 t330) := (blk_cell BK340.out 0).trans rfl; have hcz48_1 : w47.cell? ⟨gb340, 1, none⟩ = some (.string t331) := (blk_cell BK340.out 1).trans rfl; have hcz48_2 : w47.cell? ⟨gb340, 2, none⟩ = some (.int .i64 t332) := (blk_cell BK340.out 2).trans rfl; have hcz48_3 : w47.cell? ⟨gb340, 3, none⟩ = some (.int .i64 t333) := (blk_cell BK340.out 3).trans rfl; have hcz48_4 : w47.cell? ⟨gb340, 4, none⟩ = some (.string t334) := (blk_cell BK340.out 4).trans rfl; have hcz48_5 : w47.cell? ⟨gb340, 5, none⟩ = some (.string t335) := (blk_cell BK340.out 5).trans rfl; have hcz48_6 : w47.cell? ⟨gb340, 6, none⟩ = some (.string t336) := (blk_cell BK340.out 6).trans rfl; have hcz48_7 : w47.cell? ⟨gb340, 7, none⟩ = some (.slice Ao14 t337.length co14) := (blk_cell BK340.out 7).trans rfl; have hfz48_0 := blk_frozen BK340.out 0; have hfz48_1 := blk_frozen BK340.out 1; have hfz48_2 := blk_frozen BK340.out 2; have hfz48_3 := blk_frozen BK340.out 3; have hfz48_4 := blk_frozen BK340.out 4; have hfz48_5 := blk_frozen BK340.out 5; have hfz48_6 := blk_frozen BK340.out 6; have hfz48_7 := blk_frozen BK340.out 7; obtain ⟨Ao49, co49, eo49⟩ := Kd.N_slice HO367.out; subst eo49))
                        go_meet
                        case rel => exact ⟨_, (t358), (t359), (t360), (t361), (t362), (t363), (t364), (t365), (.slice Ao49 t365.length co49), H', ⟨by have := HJ8.out; first | omega | exact Nat.le_refl _⟩, ⟨by (with_reducible repeat (first | apply Kd.N_alloc | apply Kd.N_drewN | apply Kd.N_drew)); exact Kd.N_mono (Kd.N_far (p := ⟨gb340, 7, none⟩) (Kd.N_far (p := ⟨gb340, 6, none⟩) (Kd.N_far (p := ⟨gb340, 5, none⟩) (Kd.N_far (p := ⟨gb340, 4, none⟩) (Kd.N_far (p := ⟨gb340, 3, none⟩) (Kd.N_far (p := ⟨gb340, 2, none⟩) (Kd.N_far (p := ⟨gb340, 1, none⟩) (Kd.N_far (p := ⟨gb340, 0, none⟩) (Kd.N_mono HO367.out (fun k_ hk => (⟨hk, hk⟩ : _ ∧ k_ ≠ gb340))) (fun _ hk => hk.2) (.int .i64 t358)) (fun _ hk => hk.2) (.string t359)) (fun _ hk => hk.2) (.int .i64 t360)) (fun _ hk => hk.2) (.int .i64 t361)) (fun _ hk => hk.2) (.string t362)) (fun _ hk => hk.2) (.string t363)) (fun _ hk => hk.2) (.string t364)) (fun _ hk => hk.2) (.slice Ao49 t365.length co49)) (fun _ hk => hk.1)⟩, ⟨by (with_reducible repeat (first | refine blk_drewN ?_ _ | refine blk_drew ?_ | refine blk_alloc ?_ _)); refine blk_put (cs := #[.int .i64 t358, .string t359, .int .i64 t360, .int .i64 t361, .string t362, .string t363, .string t364, .slice Ao14 t337.length co14]) ?_ 7 _ rfl; (with_reducible repeat (first | refine blk_drewN ?_ _ | refine blk_drew ?_ | refine blk_alloc ?_ _)); refine blk_put (cs := #[.int .i64 t358, .string t359, .int .i64 t360, .int .i64 t361, .string t362, .string t363, .string t336, .slice Ao14 t337.length co14]) ?_ 6 _ rfl; (with_reducible repeat (first | refine blk_drewN ?_ _ | refine blk_drew ?_ | refine blk_alloc ?_ _)); refine blk_put (cs := #[.int .i64 t358, .string t359, .int .i64 t360, .int .i64 t361, .string t362, .string t335, .string t336, .slice Ao14 t337.length co14]) ?_ 5 _ rfl; (with_reducible repeat (first | refine blk_drewN ?_ _ | refine blk_drew ?_ | refine blk_alloc ?_ _)); refine blk_put (cs := #[.int .i64 t358, .string t359, .int .i64 t360, .int .i64 t361, .string t334, .string t335, .string t336, .slice Ao14 t337.length co14]) ?_ 4 _ rfl; (with_reducible repeat (first | refine blk_drewN ?_ _ | refine blk_drew ?_ | refine blk_alloc ?_ _)); refine blk_put (cs := #[.int .i64 t358, .string t359, .int .i64 t360, .int .i64 t333, .string t334, .string t335, .string t336, .slice Ao14 t337.length co14]) ?_ 3 _ rfl; (with_reducible repeat (first | refine blk_drewN ?_ _ | refine blk_drew ?_ | refine blk_alloc ?_ _)); refine blk_put (cs := #[.int .i64 t358, .string t359, .int .i64 t332, .int .i64 t333, .string t334, .string t335, .string t336, .slice Ao14 t337.length co14]) ?_ 2 _ rfl; (with_reducible repeat (first | refine blk_drewN ?_ _ | refine blk_drew ?_ | refine blk_alloc ?_ _)); refine blk_put (cs := #[.int .i64 t358, .string t331, .int .i64 t332, .int .i64 t333, .string t334, .string t335, .string t336, .slice Ao14 t337.length co14]) ?_ 1 _ rfl; (with_reducible repeat (first | refine blk_drewN ?_ _ | refine blk_drew ?_ | refine blk_alloc ?_ _)); refine blk_put (cs := #[.int .i64 t330, .string t331, .int .i64 t332, .int .i64 t333, .string t334, .string t335, .string t336, .slice Ao14 t337.length co14]) ?_ 0 _ rfl; (with_reducible repeat (first | refine blk_drewN ?_ _ | refine blk_drew ?_ | refine blk_alloc ?_ _)); exact BK340.out⟩, ⟨by repeat (first | (with_reducible first | exact HB.out | apply below_alloc | apply pw_below_drewN | apply below_drew1 | refine below_set ?_ GE340.out) | exact HB.out)⟩⟩
                      · rw [if_neg c44] at H
                        have c44b0 : ((Int.tmod a1 6) == 5) = false := beq_eq_false_iff_ne.mpr c44
                        have c44b1 : ((Int.tmod a1 6) != 5) = true := bne_iff_ne.mpr c44
                        have H' := Aside0.mk H
                        clear H
                        go_wp2
                        go_meet
                        case rel => exact ⟨_, (t330), (t331), (t332), (t333), (t334), (t335), (t336), (t337), (.slice Ao14 t337.length co14), H', ⟨by have := HJ8.out; first | omega | exact Nat.le_refl _⟩, ⟨by (with_reducible repeat (first | apply Kd.N_alloc | apply Kd.N_drewN | apply Kd.N_drew)); exact HO_341007.out⟩, ⟨by (with_reducible repeat (first | refine blk_drewN ?_ _ | refine blk_drew ?_ | refine blk_alloc ?_ _)); exact BK340.out⟩, ⟨by repeat (first | (with_reducible first | exact HB.out | apply below_alloc | apply pw_below_drewN | apply below_drew1 | refine below_set ?_ GE340.out) | exact HB.out)⟩⟩
          case rest =>
            clear HC17
            try clear c1
            try clear c2
            try clear p2
            try clear c3
            try clear c4
            try clear c5
            try clear c6
            try clear p6
            try clear c8
            try clear c9
            try clear c10
            try clear c12
            try clear c16
            try clear c16b0
            try clear c16b1
            try clear c16b2
            try clear c18
            try clear c18b0
            try clear c18b1
            try clear c19
            try clear c21
            try clear c26
            try clear c28
            try clear c29
            try clear c29b0
            try clear c29b1
            try clear c30
            try clear c30b0
            try clear c33
            try clear c33b0
            try clear c33b1
            try clear c34
            try clear c34b0
            try clear c34b1
            try clear c37
            try clear c37b0
            try clear c37b1
            try clear c38
            try clear c38b0
            try clear c38b1
            try clear c39
            try clear c39b0
            try clear c39b1
            try clear c39b2
            try clear c42
            try clear c42b0
            try clear c42b1
            try clear c44
            try clear c44b0
            try clear c44b1
            try clear hcz13_0
            try clear hcz13_1
            try clear hcz13_2
            try clear hcz13_3
            try clear hcz13_4
            try clear hcz13_5
            try clear hcz13_6
            try clear hcz13_7
            try clear hcz22_0
            try clear hcz22_1
            try clear hcz22_2
            try clear hcz22_3
            try clear hcz22_4
            try clear hcz22_5
            try clear hcz22_6
            try clear hcz22_7
            try clear hcz28_0
            try clear hcz28_1
            try clear hcz28_2
            try clear hcz28_3
            try clear hcz28_4
            try clear hcz28_5
            try clear hcz28_6
            try clear hcz28_7
            try clear hcz31_0
            try clear hcz31_1
            try clear hcz31_2
            try clear hcz31_3
            try clear hcz31_4
            try clear hcz31_5
            try clear hcz31_6
            try clear hcz31_7
            try clear hcz32_0
            try clear hcz32_1
            try clear hcz32_2
            try clear hcz32_3
            try clear hcz32_4
            try clear hcz32_5
            try clear hcz32_6
            try clear hcz32_7
            try clear hcz35_0
            try clear hcz35_1
            try clear hcz35_2
            try clear hcz35_3
            try clear hcz35_4
            try clear hcz35_5
            try clear hcz35_6
            try clear hcz35_7
            try clear hcz36_0
            try clear hcz36_1
            try clear hcz36_2
            try clear hcz36_3
            try clear hcz36_4
            try clear hcz36_5
            try clear hcz36_6
            try clear hcz36_7
            try clear hcz40_0
            try clear hcz40_1
            try clear hcz40_2
            try clear hcz40_3
            try clear hcz40_4
            try clear hcz40_5
            try clear hcz40_6
            try clear hcz40_7
            try clear hcz41_0
            try clear hcz41_1
            try clear hcz41_2
            try clear hcz41_3
            try clear hcz41_4
            try clear hcz41_5
            try clear hcz41_6
            try clear hcz41_7
            try clear hcz43_0
            try clear hcz43_1
            try clear hcz43_2
            try clear hcz43_3
            try clear hcz43_4
            try clear hcz43_5
            try clear hcz43_6
            try clear hcz43_7
            try clear hcz46_0
            try clear hcz46_1
            try clear hcz46_2
            try clear hcz46_3
            try clear hcz46_4
            try clear hcz46_5
            try clear hcz46_6
            try clear hcz46_7
            try clear hcz48_0
            try clear hcz48_1
            try clear hcz48_2
            try clear hcz48_3
            try clear hcz48_4
            try clear hcz48_5
            try clear hcz48_6
            try clear hcz48_7
            try clear hfz13_0
            try clear hfz13_1
            try clear hfz13_2
            try clear hfz13_3
            try clear hfz13_4
            try clear hfz13_5
            try clear hfz13_6
            try clear hfz13_7
            try clear hfz22_0
            try clear hfz22_1
            try clear hfz22_2
            try clear hfz22_3
            try clear hfz22_4
            try clear hfz22_5
            try clear hfz22_6
            try clear hfz22_7
            try clear hfz28_0
            try clear hfz28_1
            try clear hfz28_2
            try clear hfz28_3
            try clear hfz28_4
            try clear hfz28_5
            try clear hfz28_6
            try clear hfz28_7
            try clear hfz31_0
            try clear hfz31_1
            try clear hfz31_2
            try clear hfz31_3
            try clear hfz31_4
            try clear hfz31_5
            try clear hfz31_6
            try clear hfz31_7
            try clear hfz32_0
            try clear hfz32_1
            try clear hfz32_2
            try clear hfz32_3
            try clear hfz32_4
            try clear hfz32_5
            try clear hfz32_6
            try clear hfz32_7
            try clear hfz35_0
            try clear hfz35_1
            try clear hfz35_2
            try clear hfz35_3
            try clear hfz35_4
            try clear hfz35_5
            try clear hfz35_6
            try clear hfz35_7
            try clear hfz36_0
            try clear hfz36_1
            try clear hfz36_2
            try clear hfz36_3
            try clear hfz36_4
            try clear hfz36_5
            try clear hfz36_6
            try clear hfz36_7
            try clear hfz40_0
            try clear hfz40_1
            try clear hfz40_2
            try clear hfz40_3
            try clear hfz40_4
            try clear hfz40_5
            try clear hfz40_6
            try clear hfz40_7
            try clear hfz41_0
            try clear hfz41_1
            try clear hfz41_2
            try clear hfz41_3
            try clear hfz41_4
            try clear hfz41_5
            try clear hfz41_6
            try clear hfz41_7
            try clear hfz43_0
            try clear hfz43_1
            try clear hfz43_2
            try clear hfz43_3
            try clear hfz43_4
            try clear hfz43_5
            try clear hfz43_6
            try clear hfz43_7
            try clear hfz46_0
            try clear hfz46_1
            try clear hfz46_2
            try clear hfz46_3
            try clear hfz46_4
            try clear hfz46_5
            try clear hfz46_6
            try clear hfz46_7
            try clear hfz48_0
            try clear hfz48_1
            try clear hfz48_2
            try clear hfz48_3
            try clear hfz48_4
            try clear hfz48_5
            try clear hfz48_6
            try clear hfz48_7
            try clear p2
            obtain ⟨kq, x341000_16, x341001_16, x341002_16, x341003_16, x341004_16, x341005_16, x341006_16, x341007_16, u341007, HA, HJ16, HO_341007, BK340, HB⟩ := hcut
            cases kq with
            | zero => exact absurd HA.out (by simp [marshallinglaw07_ExprRight.j1])
            | succ kj16 =>
              have H := HA.out
              clear HA
              simp only [marshallinglaw07_ExprRight.j1] at H
              replace H := Option.bind_eq_some_iff.mp H
              obtain ⟨⟨t368, t369, t370, t371, t372, t373, t374, t375⟩, A500, H⟩ := H
              replace H : ((marshallinglaw07_two.f (⟨#[43]⟩ : ByteArray) t368 t369 t370 t371 t372 t373 t374 t375 x341000_16 x341001_16 x341002_16 x341003_16 x341004_16 x341005_16 x341006_16 x341007_16).bind fun bt378 => (if true = true then ((expr_Right.f kj16 x341000_16 x341001_16 x341002_16 x341003_16 x341004_16 x341005_16 x341006_16 x341007_16).bind fun t389 => (if t389 = true then (none) else ((expr_Right.f kj16 bt378.1 bt378.2.1 bt378.2.2.1 bt378.2.2.2.1 bt378.2.2.2.2.1 bt378.2.2.2.2.2.1 bt378.2.2.2.2.2.2.1 bt378.2.2.2.2.2.2.2).bind fun t390 => (some (!t390))))) else (none))) = some r := H
              have A50 := Aside0.mk A500
              clear A500
              replace H := Option.bind_eq_some_iff.mp H
              obtain ⟨⟨t378, t379, t380, t381, t382, t383, t384, t385⟩, A510, H⟩ := H
              replace H : (if true = true then ((expr_Right.f kj16 x341000_16 x341001_16 x341002_16 x341003_16 x341004_16 x341005_16 x341006_16 x341007_16).bind fun t389 => (if t389 = true then (none) else ((expr_Right.f kj16 t378 t379 t380 t381 t382 t383 t384 t385).bind fun t390 => (some (!t390))))) else (none)) = some r := H
              have A51 := Aside0.mk A510
              clear A510
              have H1 : ((expr_Right.f kj16 x341000_16 x341001_16 x341002_16 x341003_16 x341004_16 x341005_16 x341006_16 x341007_16).bind fun t389 => (if t389 = true then (none) else ((expr_Right.f kj16 t378 t379 t380 t381 t382 t383 t384 t385).bind fun t390 => (some (!t390))))) = some r := by first | (rw [if_pos rfl] at H; exact H) | (rw [if_pos trivial] at H; exact H) | exact H | simpa using H
              clear H
              have H := H1
              clear H1
              replace H := Option.bind_eq_some_iff.mp H
              obtain ⟨t389, A520, H⟩ := H
              replace H : (if t389 = true then (none) else ((expr_Right.f kj16 t378 t379 t380 t381 t382 t383 t384 t385).bind fun t390 => (some (!t390)))) = some r := H
              have A52 := Aside0.mk A520
              clear A520
              by_cases c53 : t389 = true
              · subst c53
                have H1 : (none) = some r := by rw [if_pos rfl] at H; exact H
                clear H
                have H := H1
                clear H1
                exact absurd H (by simp)
              · replace c53 := Bool.eq_false_iff.mpr c53
                subst c53
                have H1 : ((expr_Right.f kj16 t378 t379 t380 t381 t382 t383 t384 t385).bind fun t390 => (some (!t390))) = some r := by rw [if_neg (show ¬ (false = true) by decide)] at H; exact H
                clear H
                have H := H1
                clear H1
                replace H := Option.bind_eq_some_iff.mp H
                obtain ⟨t390, A540, H⟩ := H
                replace H : (some (!t390)) = some r := H
                have A54 := Aside0.mk A540
                clear A540
                obtain rfl := Option.some.inj H
                obtain ⟨Ao55, co55, eo55⟩ := Kd.N_slice HO_341007.out
                subst eo55
                try go_wp2
                have n0_ := Aside0.mk (Kd.N_drew HO_341007.out)
                have n1_ := Aside0.mk (blk_drew BK340.out)
                have n2_ := Aside0.mk (below_drew1 HB.out)
                clear HO_341007
                clear BK340
                clear HB
                have HO_341007 := n0_
                have BK340 := n1_
                have HB := n2_
                clear n0_ n1_ n2_
                refine start_ (n := 5) (S := fun w' => w'.cell? ⟨gb340, 0, none⟩ = some (.int .i64 x341000_16) ∧ w'.cell? ⟨gb340, 1, none⟩ = some (.string x341001_16) ∧ w'.cell? ⟨gb340, 2, none⟩ = some (.int .i64 x341002_16) ∧ w'.cell? ⟨gb340, 3, none⟩ = some (.int .i64 x341003_16) ∧ w'.cell? ⟨gb340, 4, none⟩ = some (.string x341004_16) ∧ w'.cell? ⟨gb340, 5, none⟩ = some (.string x341005_16) ∧ w'.cell? ⟨gb340, 6, none⟩ = some (.string x341006_16) ∧ w'.cell? ⟨gb340, 7, none⟩ = some (.slice Ao55 x341007_16.length co55)) (ds := []) #[false, false, false, false, false] (by kernel_rfl) rfl rfl ⟨(blk_cell BK340.out 0).trans rfl, (blk_cell BK340.out 1).trans rfl, (blk_cell BK340.out 2).trans rfl, (blk_cell BK340.out 3).trans rfl, (blk_cell BK340.out 4).trans rfl, (blk_cell BK340.out 5).trans rfl, (blk_cell BK340.out 6).trans rfl, (blk_cell BK340.out 7).trans rfl⟩ (fun hHeld => ?_)
                generalize wc.drew = w56 at HO_341007 BK340 HB hHeld ⊢
                refine take_ (i := 1) (N := some 71) (v := ?_) (a' := ?_) #[false, true, false, false, false] rfl rfl (by kernel_rfl) (fun _ _ _ h => h) (Or.inl ⟨by rfl, ?_⟩) hHeld ?_ ?_
                rotate_left
                · rintro w' ⟨s0, s1, s2, s3, s4, s5, s6, s7⟩
                  go_simp
                  with_reducible rfl
                rotate_left
                · simp only [Act.put, List.setIfInBounds_toArray, List.set_cons_zero, List.set_cons_succ, i64_w, i32_w]
                  rfl
                refine join_ (σ := Value × Value × Nat) 1 #[true, true, true, true, false] (fun s_ => [(70, .agg #[.int .i64 t368, .string t369, .int .i64 t370, .int .i64 t371, .string t372, .string t373, .string t374, s_.1]), (72, .agg #[.int .i64 t378, .string t379, .int .i64 t380, .int .i64 t381, .string t382, .string t383, .string t384, s_.2.1]), (9, .pointer (some ⟨s_.2.2, 0, none⟩))]) (fun s_ w' => (w'.cell? ⟨gb340, 0, none⟩ = some (.int .i64 x341000_16) ∧ w'.cell? ⟨gb340, 1, none⟩ = some (.string x341001_16) ∧ w'.cell? ⟨gb340, 2, none⟩ = some (.int .i64 x341002_16) ∧ w'.cell? ⟨gb340, 3, none⟩ = some (.int .i64 x341003_16) ∧ w'.cell? ⟨gb340, 4, none⟩ = some (.string x341004_16) ∧ w'.cell? ⟨gb340, 5, none⟩ = some (.string x341005_16) ∧ w'.cell? ⟨gb340, 6, none⟩ = some (.string x341006_16) ∧ w'.cell? ⟨gb340, 7, none⟩ = some (.slice Ao55 x341007_16.length co55)) ∧ (Kd.N k26 26 w' w.heap.size (fun k_ => some k_ ≠ (s_.2.1 : Value).ownBlock ∧ some k_ ≠ (.slice Ao55 x341007_16.length co55 : Value).ownBlock ∧ k_ ≠ gb340 ∧ k_ ≠ s_.2.2) s_.1 t375) ∧ (Kd.N k26 26 w' w.heap.size (fun k_ => k_ ≠ gb340 ∧ k_ ≠ s_.2.2) s_.2.1 t385) ∧ (Kd.N k26 26 w' w.heap.size (fun k_ => some k_ ≠ (s_.1 : Value).ownBlock ∧ some k_ ≠ (s_.2.1 : Value).ownBlock ∧ k_ ≠ gb340 ∧ k_ ≠ s_.2.2) (.slice Ao55 x341007_16.length co55) x341007_16) ∧ (w'.heap[gb340]? = some (.cells #[.int .i64 x341000_16, .string x341001_16, .int .i64 x341002_16, .int .i64 x341003_16, .string x341004_16, .string x341005_16, .string x341006_16, .slice Ao55 x341007_16.length co55] 26 (0, 0))) ∧ (w'.heap[s_.2.2]? = some (.cells #[.int .i64 0, .string (⟨#[]⟩ : ByteArray), .int .i64 0, .int .i64 0, .string (⟨#[]⟩ : ByteArray), .string (⟨#[]⟩ : ByteArray), .string (⟨#[]⟩ : ByteArray), .slice none 0 0] 26 (0, 0))) ∧ (w.heap.size ≤ s_.2.2) ∧ (w.heap.size ≤ s_.2.2) ∧ (gb340 ≠ s_.2.2) ∧ (s_.2.2 ≠ gb340) ∧ (Below w.heap.size w w')) ?_ ?_
                rotate_left
                · intro hCont
                  refine two_ (i := 0) (j := 3) (Ni := some 70) (Nj := some 9) #[true, true, false, false, false] #[false, true, false, true, false] rfl rfl rfl rfl (by kernel_rfl) (by decide) (by decide) (fun K hK => ?_) (fun K hK => ?_)
                  · skip
                    refine goes_ Tryd.func28 (by kernel_rfl) rfl #[.int .i64 0] (by rfl) rfl rfl (by (try simp only [List.map_toArray, List.map_cons, List.map_nil]); first | done | rfl | (simp only [List.length_drop, List.length_take]; rfl)) ?_
                    with_reducible refine (marshallinglaw07_lit.calls 0 t368 t369 t370 t371 t372 t373 t374 t375 _ A50.out).mono ?_
                    rintro e w57 ⟨v376, rfl, ho0, hb⟩
                    refine ⟨_, rfl, ?_⟩
                    have n0_ := Aside0.mk (Kd.N_elder' (by (with_reducible repeat (first | apply Kd.N_alloc | apply Kd.N_drewN | apply Kd.N_drew)); exact HO_341007.out) (Kd.R_base ho0) hb)
                    have n1_ := Aside0.mk (Kd.N_lower (Kd.N_mono (ok' := fun k_ => some k_ ≠ (.slice Ao55 x341007_16.length co55 : Value).ownBlock ∧ k_ ≠ gb340) (Kd.R_N (Kd.R_bound ho0)) (fun k_ hk_ => ⟨(Kd.fresh' (Kd.N_lt (by (with_reducible repeat (first | apply Kd.N_alloc | apply Kd.N_drewN | apply Kd.N_drew)); exact HO_341007.out)) k_ hk_.2.1), (Kd.freshB (g := gb340) (o := .cells #[.int .i64 x341000_16, .string x341001_16, .int .i64 x341002_16, .int .i64 x341003_16, .string x341004_16, .string x341005_16, .string x341006_16, .slice Ao55 x341007_16.length co55] 26 (0, 0)) (by (with_reducible repeat (first | refine blk_drewN ?_ _ | refine blk_drew ?_ | refine blk_alloc ?_ _)); exact BK340.out) k_ hk_.2.1)⟩)) (below_size (by repeat (first | (with_reducible first | exact HB.out | apply below_alloc | apply pw_below_drewN | apply below_drew1 | refine below_set ?_ GE340.out) | exact HB.out))))
                    have n2_ := Aside0.mk (blk_below (g := gb340) (o := .cells #[.int .i64 x341000_16, .string x341001_16, .int .i64 x341002_16, .int .i64 x341003_16, .string x341004_16, .string x341005_16, .string x341006_16, .slice Ao55 x341007_16.length co55] 26 (0, 0)) (by (with_reducible repeat (first | refine blk_drewN ?_ _ | refine blk_drew ?_ | refine blk_alloc ?_ _)); exact BK340.out) hb)
                    have n3_ := Aside0.mk (below_step (by repeat (first | (with_reducible first | exact HB.out | apply below_alloc | apply pw_below_drewN | apply below_drew1 | refine below_set ?_ GE340.out) | exact HB.out)) hb)
                    clear HO_341007
                    clear BK340
                    clear HB
                    have HO_341007 := n0_
                    have HO377 := n1_
                    have BK340 := n2_
                    have HB := n3_
                    clear n0_ n1_ n2_ n3_
                    (try clear hb)
                    (try clear hb2)
                    (try clear hk)
                    (try clear hi)
                    (try clear ho0)
                    obtain ⟨Ao58, co58, eo58⟩ := Kd.N_slice HO377.out
                    (first | subst eo58 | (injection eo58 with f1_ f2_ f3_; have f4_ := f1_.symm; have f5_ := f3_.symm; clear f1_ f2_ f3_; subst f4_; subst f5_))
                    refine hK.out _ _ ⟨(blk_cell BK340.out 0).trans rfl, (blk_cell BK340.out 1).trans rfl, (blk_cell BK340.out 2).trans rfl, (blk_cell BK340.out 3).trans rfl, (blk_cell BK340.out 4).trans rfl, (blk_cell BK340.out 5).trans rfl, (blk_cell BK340.out 6).trans rfl, (blk_cell BK340.out 7).trans rfl⟩ (fun hHeld => ?_)
                    clear hK K
                    refine norm_ (a' := ?_) ?_ ?_
                    rotate_left
                    · show Act.put _ (some 70) _ = _
                      simp only [Act.put, List.setIfInBounds_toArray, List.set_cons_zero, List.set_cons_succ, i64_w, i32_w]
                      rfl
                    refine two_ (i := 2) (j := 3) (Ni := some 72) (Nj := some 9) #[true, true, true, false, false] #[true, true, false, true, false] rfl rfl rfl rfl (by kernel_rfl) (by decide) (by decide) (fun K hK => ?_) (fun K hK => ?_)
                    · skip
                      refine goes_ Tryd.func26 (by kernel_rfl) rfl #[.string (⟨#[43]⟩ : ByteArray), .agg #[.int .i64 t368, .string t369, .int .i64 t370, .int .i64 t371, .string t372, .string t373, .string t374, .slice Ao58 t375.length co58], .agg #[.int .i64 x341000_16, .string x341001_16, .int .i64 x341002_16, .int .i64 x341003_16, .string x341004_16, .string x341005_16, .string x341006_16, .slice Ao55 x341007_16.length co55]] (by rfl) rfl rfl (by (try simp only [List.map_toArray, List.map_cons, List.map_nil]); first | done | rfl | (simp only [List.length_drop, List.length_take]; rfl)) ?_
                      with_reducible refine (marshallinglaw07_two.calls (⟨#[43]⟩ : ByteArray) t368 t369 t370 t371 t372 t373 t374 (fun k_ => (some k_ ≠ (.slice Ao55 x341007_16.length co55 : Value).ownBlock ∧ k_ ≠ gb340)) _ _ t375 x341000_16 x341001_16 x341002_16 x341003_16 x341004_16 x341005_16 x341006_16 (fun k_ => (k_ ≠ gb340 ∧ some k_ ≠ (.slice Ao58 t375.length co58 : Value).ownBlock)) _ _ x341007_16 t378 t379 t380 t381 t382 t383 t384 t385 _ ?side1 ?side2 A51.out).mono ?_
                      (case side1 => exact Kd.N_V (HO377.out))
                      (case side2 => exact Kd.N_V (HO_341007.out))
                      rintro e w59 ⟨v386, rfl, ho0, hb⟩
                      refine ⟨_, rfl, ?_⟩
                      have n0_ := Aside0.mk (Kd.N_elder' (by (with_reducible repeat (first | apply Kd.N_alloc | apply Kd.N_drewN | apply Kd.N_drew)); exact HO_341007.out) (Kd.N_base ho0) hb)
                      have n1_ := Aside0.mk (Kd.N_elder' (by (with_reducible repeat (first | apply Kd.N_alloc | apply Kd.N_drewN | apply Kd.N_drew)); exact HO377.out) (Kd.N_base ho0) hb)
                      have n2_ := Aside0.mk (Kd.N_lower (Kd.N_mono (ok' := fun k_ => k_ ≠ gb340) ho0 (fun k_ hk_ => Or.elim hk_ (fun hs_ => Or.elim hs_ (fun hs_ => hs_.2) (fun hs_ => hs_.1)) (fun hn_ => (Kd.freshB (g := gb340) (o := .cells #[.int .i64 x341000_16, .string x341001_16, .int .i64 x341002_16, .int .i64 x341003_16, .string x341004_16, .string x341005_16, .string x341006_16, .slice Ao55 x341007_16.length co55] 26 (0, 0)) (by (with_reducible repeat (first | refine blk_drewN ?_ _ | refine blk_drew ?_ | refine blk_alloc ?_ _)); exact BK340.out) k_ hn_)))) (below_size (by repeat (first | (with_reducible first | exact HB.out | apply below_alloc | apply pw_below_drewN | apply below_drew1 | refine below_set ?_ GE340.out) | exact HB.out))))
                      have n3_ := Aside0.mk (blk_below (g := gb340) (o := .cells #[.int .i64 x341000_16, .string x341001_16, .int .i64 x341002_16, .int .i64 x341003_16, .string x341004_16, .string x341005_16, .string x341006_16, .slice Ao55 x341007_16.length co55] 26 (0, 0)) (by (with_reducible repeat (first | refine blk_drewN ?_ _ | refine blk_drew ?_ | refine blk_alloc ?_ _)); exact BK340.out) hb)
                      have n4_ := Aside0.mk (below_step (by repeat (first | (with_reducible first | exact HB.out | apply below_alloc | apply pw_below_drewN | apply below_drew1 | refine below_set ?_ GE340.out) | exact HB.out)) hb)
                      clear HO_341007
                      clear HO377
                      clear BK340
                      clear HB
                      have HO_341007 := n0_
                      have HO377 := n1_
                      have HO387 := n2_
                      have BK340 := n3_
                      have HB := n4_
                      clear n0_ n1_ n2_ n3_ n4_
                      (try clear hb)
                      (try clear hb2)
                      (try clear hk)
                      (try clear hi)
                      (try clear ho0)
                      refine hK.out _ _ ⟨(blk_cell BK340.out 0).trans rfl, (blk_cell BK340.out 1).trans rfl, (blk_cell BK340.out 2).trans rfl, (blk_cell BK340.out 3).trans rfl, (blk_cell BK340.out 4).trans rfl, (blk_cell BK340.out 5).trans rfl, (blk_cell BK340.out 6).trans rfl, (blk_cell BK340.out 7).trans rfl⟩ (fun hHeld => ?_)
                      clear hK K
                      refine norm_ (a' := ?_) ?_ ?_
                      rotate_left
                      · show Act.put _ (some 72) _ = _
                        simp only [Act.put, List.setIfInBounds_toArray, List.set_cons_zero, List.set_cons_succ, i64_w, i32_w]
                        rfl
                      refine one_ (i := 3) (N := some 9) #[true, true, true, true, false] rfl rfl (by kernel_rfl) (by decide) (fun K hK => ?_)
                      refine box_step ?hg (N := 9) ?hd (cs := #[.int .i64 0, .string (⟨#[]⟩ : ByteArray), .int .i64 0, .int .i64 0, .string (⟨#[]⟩ : ByteArray), .string (⟨#[]⟩ : ByteArray), .string (⟨#[]⟩ : ByteArray), .slice none 0 0]) (t := 26) ?hr ?_; (case hd => rfl); (case hg => rfl); (case hr => first | (go_simp; done) | (go_simp; rfl))
                      intro gb388 hg w60 hbox hb
                      have n0_ := Aside0.mk (Kd.N_below (Kd.N_elderB (by (with_reducible repeat (first | apply Kd.N_alloc | apply Kd.N_drewN | apply Kd.N_drew)); exact HO_341007.out) gb388 (Nat.le_of_eq hg.symm)) hb)
                      have n1_ := Aside0.mk (Kd.N_below (Kd.N_elderB (by (with_reducible repeat (first | apply Kd.N_alloc | apply Kd.N_drewN | apply Kd.N_drew)); exact HO377.out) gb388 (Nat.le_of_eq hg.symm)) hb)
                      have n2_ := Aside0.mk (Kd.N_below (Kd.N_elderB (by (with_reducible repeat (first | apply Kd.N_alloc | apply Kd.N_drewN | apply Kd.N_drew)); exact HO387.out) gb388 (Nat.le_of_eq hg.symm)) hb)
                      have n3_ := Aside0.mk (blk_below (g := gb340) (o := .cells #[.int .i64 x341000_16, .string x341001_16, .int .i64 x341002_16, .int .i64 x341003_16, .string x341004_16, .string x341005_16, .string x341006_16, .slice Ao55 x341007_16.length co55] 26 (0, 0)) (by (with_reducible repeat (first | refine blk_drewN ?_ _ | refine blk_drew ?_ | refine blk_alloc ?_ _)); exact BK340.out) hb)
                      have n4_ := Aside0.mk (below_step (by repeat (first | (with_reducible first | exact HB.out | apply below_alloc | apply pw_below_drewN | apply below_drew1 | refine below_set ?_ GE340.out) | exact HB.out)) hb)
                      have n5_ := Aside0.mk (hbox)
                      have n6_ := Aside0.mk ((by rw [hg]; exact (below_size (by repeat (first | (with_reducible first | exact HB.out | apply below_alloc | apply pw_below_drewN | apply below_drew1 | refine below_set ?_ GE340.out) | exact HB.out))) : w.heap.size ≤ gb388))
                      have n7_ := Aside0.mk ((by rw [hg]; exact (below_size (by repeat (first | (with_reducible first | exact HB.out | apply below_alloc | apply pw_below_drewN | apply below_drew1 | refine below_set ?_ GE340.out) | exact HB.out))) : w.heap.size ≤ gb388))
                      have n8_ := Aside0.mk ((by rw [hg]; exact Nat.ne_of_lt (blk_lt (g := gb340) (o := .cells #[.int .i64 x341000_16, .string x341001_16, .int .i64 x341002_16, .int .i64 x341003_16, .string x341004_16, .string x341005_16, .string x341006_16, .slice Ao55 x341007_16.length co55] 26 (0, 0)) (by (with_reducible repeat (first | refine blk_drewN ?_ _ | refine blk_drew ?_ | refine blk_alloc ?_ _)); exact BK340.out)) : gb340 ≠ gb388))
                      have n9_ := Aside0.mk ((by rw [hg]; exact Nat.ne_of_gt (blk_lt (g := gb340) (o := .cells #[.int .i64 x341000_16, .string x341001_16, .int .i64 x341002_16, .int .i64 x341003_16, .string x341004_16, .string x341005_16, .string x341006_16, .slice Ao55 x341007_16.length co55] 26 (0, 0)) (by (with_reducible repeat (first | refine blk_drewN ?_ _ | refine blk_drew ?_ | refine blk_alloc ?_ _)); exact BK340.out)) : gb388 ≠ gb340))
                      clear HO_341007
                      clear HO377
                      clear HO387
                      clear BK340
                      clear HB
                      have HO_341007 := n0_
                      have HO377 := n1_
                      have HO387 := n2_
                      have BK340 := n3_
                      have HB := n4_
                      have BK388 := n5_
                      have GW388 := n6_
                      have GE388 := n7_
                      have NB340_388 := n8_
                      have NB388_340 := n9_
                      clear n0_ n1_ n2_ n3_ n4_ n5_ n6_ n7_ n8_ n9_
                      clear hb hbox hg
                      refine hK.out _ _ ⟨(blk_cell BK340.out 0).trans rfl, (blk_cell BK340.out 1).trans rfl, (blk_cell BK340.out 2).trans rfl, (blk_cell BK340.out 3).trans rfl, (blk_cell BK340.out 4).trans rfl, (blk_cell BK340.out 5).trans rfl, (blk_cell BK340.out 6).trans rfl, (blk_cell BK340.out 7).trans rfl⟩ (fun hHeld => ?_)
                      clear hK K
                      refine norm_ (a' := ?_) ?_ ?_
                      rotate_left
                      · show Act.put _ (some 9) _ = _
                        simp only [Act.put, List.setIfInBounds_toArray, List.set_cons_zero, List.set_cons_succ, i64_w, i32_w]
                        rfl
                      exact norm_ (by simp only [putAll, Act.put, List.setIfInBounds_toArray, List.set_cons_zero, List.set_cons_succ]) (hCont (.slice Ao58 t375.length co58, v386, gb388) _ ⟨hHeld, (by (with_reducible repeat (first | apply Kd.N_alloc | apply Kd.N_drewN | apply Kd.N_drew)); exact Kd.N_mono HO377.out (fun _ hk => ⟨hk.1.2, ⟨hk.1.1.1, ⟨hk.1.1.2, hk.2⟩⟩⟩)), (by (with_reducible repeat (first | apply Kd.N_alloc | apply Kd.N_drewN | apply Kd.N_drew)); exact HO387.out), (by (with_reducible repeat (first | apply Kd.N_alloc | apply Kd.N_drewN | apply Kd.N_drew)); exact Kd.N_mono HO_341007.out (fun _ hk => ⟨hk.1.1.2, ⟨hk.1.2, ⟨hk.1.1.1, hk.2⟩⟩⟩)), (by (with_reducible repeat (first | refine blk_drewN ?_ _ | refine blk_drew ?_ | refine blk_alloc ?_ _)); exact BK340.out), (by (with_reducible repeat (first | refine blk_drewN ?_ _ | refine blk_drew ?_ | refine blk_alloc ?_ _)); exact BK388.out), GW388.out, GE388.out, NB340_388.out, NB388_340.out, (by repeat (first | (with_reducible first | exact HB.out | apply below_alloc | apply pw_below_drewN | apply below_drew1 | refine below_set ?_ GE340.out | refine below_set ?_ GE388.out) | exact HB.out))⟩)
                    · skip
                      refine box_step ?hg (N := 9) ?hd (cs := #[.int .i64 0, .string (⟨#[]⟩ : ByteArray), .int .i64 0, .int .i64 0, .string (⟨#[]⟩ : ByteArray), .string (⟨#[]⟩ : ByteArray), .string (⟨#[]⟩ : ByteArray), .slice none 0 0]) (t := 26) ?hr ?_; (case hd => rfl); (case hg => rfl); (case hr => first | (go_simp; done) | (go_simp; rfl))
                      intro gb388 hg w58 hbox hb
                      have n0_ := Aside0.mk (Kd.N_below (Kd.N_elderB (by (with_reducible repeat (first | apply Kd.N_alloc | apply Kd.N_drewN | apply Kd.N_drew)); exact HO_341007.out) gb388 (Nat.le_of_eq hg.symm)) hb)
                      have n1_ := Aside0.mk (Kd.N_below (Kd.N_elderB (by (with_reducible repeat (first | apply Kd.N_alloc | apply Kd.N_drewN | apply Kd.N_drew)); exact HO377.out) gb388 (Nat.le_of_eq hg.symm)) hb)
                      have n2_ := Aside0.mk (blk_below (g := gb340) (o := .cells #[.int .i64 x341000_16, .string x341001_16, .int .i64 x341002_16, .int .i64 x341003_16, .string x341004_16, .string x341005_16, .string x341006_16, .slice Ao55 x341007_16.length co55] 26 (0, 0)) (by (with_reducible repeat (first | refine blk_drewN ?_ _ | refine blk_drew ?_ | refine blk_alloc ?_ _)); exact BK340.out) hb)
                      have n3_ := Aside0.mk (below_step (by repeat (first | (with_reducible first | exact HB.out | apply below_alloc | apply pw_below_drewN | apply below_drew1 | refine below_set ?_ GE340.out) | exact HB.out)) hb)
                      have n4_ := Aside0.mk (hbox)
                      have n5_ := Aside0.mk ((by rw [hg]; exact (below_size (by repeat (first | (with_reducible first | exact HB.out | apply below_alloc | apply pw_below_drewN | apply below_drew1 | refine below_set ?_ GE340.out) | exact HB.out))) : w.heap.size ≤ gb388))
                      have n6_ := Aside0.mk ((by rw [hg]; exact (below_size (by repeat (first | (with_reducible first | exact HB.out | apply below_alloc | apply pw_below_drewN | apply below_drew1 | refine below_set ?_ GE340.out) | exact HB.out))) : w.heap.size ≤ gb388))
                      have n7_ := Aside0.mk ((by rw [hg]; exact Nat.ne_of_lt (blk_lt (g := gb340) (o := .cells #[.int .i64 x341000_16, .string x341001_16, .int .i64 x341002_16, .int .i64 x341003_16, .string x341004_16, .string x341005_16, .string x341006_16, .slice Ao55 x341007_16.length co55] 26 (0, 0)) (by (with_reducible repeat (first | refine blk_drewN ?_ _ | refine blk_drew ?_ | refine blk_alloc ?_ _)); exact BK340.out)) : gb340 ≠ gb388))
                      have n8_ := Aside0.mk ((by rw [hg]; exact Nat.ne_of_gt (blk_lt (g := gb340) (o := .cells #[.int .i64 x341000_16, .string x341001_16, .int .i64 x341002_16, .int .i64 x341003_16, .string x341004_16, .string x341005_16, .string x341006_16, .slice Ao55 x341007_16.length co55] 26 (0, 0)) (by (with_reducible repeat (first | refine blk_drewN ?_ _ | refine blk_drew ?_ | refine blk_alloc ?_ _)); exact BK340.out)) : gb388 ≠ gb340))
                      clear HO_341007
                      clear HO377
                      clear BK340
                      clear HB
                      have HO_341007 := n0_
                      have HO377 := n1_
                      have BK340 := n2_
                      have HB := n3_
                      have BK388 := n4_
                      have GW388 := n5_
                      have GE388 := n6_
                      have NB340_388 := n7_
                      have NB388_340 := n8_
                      clear n0_ n1_ n2_ n3_ n4_ n5_ n6_ n7_ n8_
                      clear hb hbox hg
                      obtain ⟨Ao59, co59, eo59⟩ := Kd.N_slice HO377.out
                      (first | subst eo59 | (injection eo59 with f1_ f2_ f3_; have f4_ := f1_.symm; have f5_ := f3_.symm; clear f1_ f2_ f3_; subst f4_; subst f5_))
                      refine hK.out _ _ ⟨(blk_cell BK340.out 0).trans rfl, (blk_cell BK340.out 1).trans rfl, (blk_cell BK340.out 2).trans rfl, (blk_cell BK340.out 3).trans rfl, (blk_cell BK340.out 4).trans rfl, (blk_cell BK340.out 5).trans rfl, (blk_cell BK340.out 6).trans rfl, (blk_cell BK340.out 7).trans rfl⟩ (fun hHeld => ?_)
                      clear hK K
                      refine norm_ (a' := ?_) ?_ ?_
                      rotate_left
                      · show Act.put _ (some 9) _ = _
                        simp only [Act.put, List.setIfInBounds_toArray, List.set_cons_zero, List.set_cons_succ, i64_w, i32_w]
                        rfl
                      refine one_ (i := 2) (N := some 72) #[true, true, true, true, false] rfl rfl (by kernel_rfl) (by decide) (fun K hK => ?_)
                      refine goes_ Tryd.func26 (by kernel_rfl) rfl #[.string (⟨#[43]⟩ : ByteArray), .agg #[.int .i64 t368, .string t369, .int .i64 t370, .int .i64 t371, .string t372, .string t373, .string t374, .slice Ao59 t375.length co59], .agg #[.int .i64 x341000_16, .string x341001_16, .int .i64 x341002_16, .int .i64 x341003_16, .string x341004_16, .string x341005_16, .string x341006_16, .slice Ao55 x341007_16.length co55]] (by rfl) rfl rfl (by (try simp only [List.map_toArray, List.map_cons, List.map_nil]); first | done | rfl | (simp only [List.length_drop, List.length_take]; rfl)) ?_
                      with_reducible refine (marshallinglaw07_two.calls (⟨#[43]⟩ : ByteArray) t368 t369 t370 t371 t372 t373 t374 (fun k_ => ((some k_ ≠ (.slice Ao55 x341007_16.length co55 : Value).ownBlock ∧ k_ ≠ gb340) ∧ k_ ≠ gb388)) _ _ t375 x341000_16 x341001_16 x341002_16 x341003_16 x341004_16 x341005_16 x341006_16 (fun k_ => ((k_ ≠ gb340 ∧ some k_ ≠ (.slice Ao59 t375.length co59 : Value).ownBlock) ∧ k_ ≠ gb388)) _ _ x341007_16 t378 t379 t380 t381 t382 t383 t384 t385 _ ?side1 ?side2 A51.out).mono ?_
                      (case side1 => exact Kd.N_V (HO377.out))
                      (case side2 => exact Kd.N_V (HO_341007.out))
                      rintro e w60 ⟨v386, rfl, ho0, hb⟩
                      refine ⟨_, rfl, ?_⟩
                      have n0_ := Aside0.mk (Kd.N_elder' (by (with_reducible repeat (first | apply Kd.N_alloc | apply Kd.N_drewN | apply Kd.N_drew)); exact HO_341007.out) (Kd.N_base ho0) hb)
                      have n1_ := Aside0.mk (Kd.N_elder' (by (with_reducible repeat (first | apply Kd.N_alloc | apply Kd.N_drewN | apply Kd.N_drew)); exact HO377.out) (Kd.N_base ho0) hb)
                      have n2_ := Aside0.mk (Kd.N_lower (Kd.N_mono (ok' := fun k_ => k_ ≠ gb340 ∧ k_ ≠ gb388) ho0 (fun k_ hk_ => ⟨Or.elim hk_ (fun hs_ => Or.elim hs_ (fun hs_ => hs_.1.2) (fun hs_ => hs_.1.1)) (fun hn_ => (Kd.freshB (g := gb340) (o := .cells #[.int .i64 x341000_16, .string x341001_16, .int .i64 x341002_16, .int .i64 x341003_16, .string x341004_16, .string x341005_16, .string x341006_16, .slice Ao55 x341007_16.length co55] 26 (0, 0)) (by (with_reducible repeat (first | refine blk_drewN ?_ _ | refine blk_drew ?_ | refine blk_alloc ?_ _)); exact BK340.out) k_ hn_)), Or.elim hk_ (fun hs_ => Or.elim hs_ (fun hs_ => hs_.2) (fun hs_ => hs_.2)) (fun hn_ => (Kd.freshB (g := gb388) (o := .cells #[.int .i64 0, .string (⟨#[]⟩ : ByteArray), .int .i64 0, .int .i64 0, .string (⟨#[]⟩ : ByteArray), .string (⟨#[]⟩ : ByteArray), .string (⟨#[]⟩ : ByteArray), .slice none 0 0] 26 (0, 0)) (by (with_reducible repeat (first | refine blk_drewN ?_ _ | refine blk_drew ?_ | refine blk_alloc ?_ _)); exact BK388.out) k_ hn_))⟩)) (below_size (by repeat (first | (with_reducible first | exact HB.out | apply below_alloc | apply pw_below_drewN | apply below_drew1 | refine below_set ?_ GE340.out | refine below_set ?_ GE388.out) | exact HB.out))))
                      have n3_ := Aside0.mk (blk_below (g := gb340) (o := .cells #[.int .i64 x341000_16, .string x341001_16, .int .i64 x341002_16, .int .i64 x341003_16, .string x341004_16, .string x341005_16, .string x341006_16, .slice Ao55 x341007_16.length co55] 26 (0, 0)) (by (with_reducible repeat (first | refine blk_drewN ?_ _ | refine blk_drew ?_ | refine blk_alloc ?_ _)); exact BK340.out) hb)
                      have n4_ := Aside0.mk (blk_below (g := gb388) (o := .cells #[.int .i64 0, .string (⟨#[]⟩ : ByteArray), .int .i64 0, .int .i64 0, .string (⟨#[]⟩ : ByteArray), .string (⟨#[]⟩ : ByteArray), .string (⟨#[]⟩ : ByteArray), .slice none 0 0] 26 (0, 0)) (by (with_reducible repeat (first | refine blk_drewN ?_ _ | refine blk_drew ?_ | refine blk_alloc ?_ _)); exact BK388.out) hb)
                      have n5_ := Aside0.mk (below_step (by repeat (first | (with_reducible first | exact HB.out | apply below_alloc | apply pw_below_drewN | apply below_drew1 | refine below_set ?_ GE340.out | refine below_set ?_ GE388.out) | exact HB.out)) hb)
                      clear HO_341007
                      clear HO377
                      clear BK340
                      clear BK388
                      clear HB
                      have HO_341007 := n0_
                      have HO377 := n1_
                      have HO387 := n2_
                      have BK340 := n3_
                      have BK388 := n4_
                      have HB := n5_
                      clear n0_ n1_ n2_ n3_ n4_ n5_
                      (try clear hb)
                      (try clear hb2)
                      (try clear hk)
                      (try clear hi)
                      (try clear ho0)
                      refine hK.out _ _ ⟨(blk_cell BK340.out 0).trans rfl, (blk_cell BK340.out 1).trans rfl, (blk_cell BK340.out 2).trans rfl, (blk_cell BK340.out 3).trans rfl, (blk_cell BK340.out 4).trans rfl, (blk_cell BK340.out 5).trans rfl, (blk_cell BK340.out 6).trans rfl, (blk_cell BK340.out 7).trans rfl⟩ (fun hHeld => ?_)
                      clear hK K
                      refine norm_ (a' := ?_) ?_ ?_
                      rotate_left
                      · show Act.put _ (some 72) _ = _
                        simp only [Act.put, List.setIfInBounds_toArray, List.set_cons_zero, List.set_cons_succ, i64_w, i32_w]
                        rfl
                      exact norm_ (by simp only [putAll, Act.put, List.setIfInBounds_toArray, List.set_cons_zero, List.set_cons_succ]) (hCont (.slice Ao59 t375.length co59, v386, gb388) _ ⟨hHeld, (by (with_reducible repeat (first | apply Kd.N_alloc | apply Kd.N_drewN | apply Kd.N_drew)); exact Kd.N_mono HO377.out (fun _ hk => ⟨hk.2, ⟨hk.1.1.1, ⟨hk.1.1.2, hk.1.2⟩⟩⟩)), (by (with_reducible repeat (first | apply Kd.N_alloc | apply Kd.N_drewN | apply Kd.N_drew)); exact HO387.out), (by (with_reducible repeat (first | apply Kd.N_alloc | apply Kd.N_drewN | apply Kd.N_drew)); exact Kd.N_mono HO_341007.out (fun _ hk => ⟨hk.1.1.2, ⟨hk.2, ⟨hk.1.1.1, hk.1.2⟩⟩⟩)), (by (with_reducible repeat (first | refine blk_drewN ?_ _ | refine blk_drew ?_ | refine blk_alloc ?_ _)); exact BK340.out), (by (with_reducible repeat (first | refine blk_drewN ?_ _ | refine blk_drew ?_ | refine blk_alloc ?_ _)); exact BK388.out), GW388.out, GE388.out, NB340_388.out, NB388_340.out, (by repeat (first | (with_reducible first | exact HB.out | apply below_alloc | apply pw_below_drewN | apply below_drew1 | refine below_set ?_ GE340.out | refine below_set ?_ GE388.out) | exact HB.out))⟩)
                  · skip
                    refine box_step ?hg (N := 9) ?hd (cs := #[.int .i64 0, .string (⟨#[]⟩ : ByteArray), .int .i64 0, .int .i64 0, .string (⟨#[]⟩ : ByteArray), .string (⟨#[]⟩ : ByteArray), .string (⟨#[]⟩ : ByteArray), .slice none 0 0]) (t := 26) ?hr ?_; (case hd => rfl); (case hg => rfl); (case hr => first | (go_simp; done) | (go_simp; rfl))
                    intro gb388 hg w57 hbox hb
                    have n0_ := Aside0.mk (Kd.N_below (Kd.N_elderB (by (with_reducible repeat (first | apply Kd.N_alloc | apply Kd.N_drewN | apply Kd.N_drew)); exact HO_341007.out) gb388 (Nat.le_of_eq hg.symm)) hb)
                    have n1_ := Aside0.mk (blk_below (g := gb340) (o := .cells #[.int .i64 x341000_16, .string x341001_16, .int .i64 x341002_16, .int .i64 x341003_16, .string x341004_16, .string x341005_16, .string x341006_16, .slice Ao55 x341007_16.length co55] 26 (0, 0)) (by (with_reducible repeat (first | refine blk_drewN ?_ _ | refine blk_drew ?_ | refine blk_alloc ?_ _)); exact BK340.out) hb)
                    have n2_ := Aside0.mk (below_step (by repeat (first | (with_reducible first | exact HB.out | apply below_alloc | apply pw_below_drewN | apply below_drew1 | refine below_set ?_ GE340.out) | exact HB.out)) hb)
                    have n3_ := Aside0.mk (hbox)
                    have n4_ := Aside0.mk ((by rw [hg]; exact (below_size (by repeat (first | (with_reducible first | exact HB.out | apply below_alloc | apply pw_below_drewN | apply below_drew1 | refine below_set ?_ GE340.out) | exact HB.out))) : w.heap.size ≤ gb388))
                    have n5_ := Aside0.mk ((by rw [hg]; exact (below_size (by repeat (first | (with_reducible first | exact HB.out | apply below_alloc | apply pw_below_drewN | apply below_drew1 | refine below_set ?_ GE340.out) | exact HB.out))) : w.heap.size ≤ gb388))
                    have n6_ := Aside0.mk ((by rw [hg]; exact Nat.ne_of_lt (blk_lt (g := gb340) (o := .cells #[.int .i64 x341000_16, .string x341001_16, .int .i64 x341002_16, .int .i64 x341003_16, .string x341004_16, .string x341005_16, .string x341006_16, .slice Ao55 x341007_16.length co55] 26 (0, 0)) (by (with_reducible repeat (first | refine blk_drewN ?_ _ | refine blk_drew ?_ | refine blk_alloc ?_ _)); exact BK340.out)) : gb340 ≠ gb388))
                    have n7_ := Aside0.mk ((by rw [hg]; exact Nat.ne_of_gt (blk_lt (g := gb340) (o := .cells #[.int .i64 x341000_16, .string x341001_16, .int .i64 x341002_16, .int .i64 x341003_16, .string x341004_16, .string x341005_16, .string x341006_16, .slice Ao55 x341007_16.length co55] 26 (0, 0)) (by (with_reducible repeat (first | refine blk_drewN ?_ _ | refine blk_drew ?_ | refine blk_alloc ?_ _)); exact BK340.out)) : gb388 ≠ gb340))
                    clear HO_341007
                    clear BK340
                    clear HB
                    have HO_341007 := n0_
                    have BK340 := n1_
                    have HB := n2_
                    have BK388 := n3_
                    have GW388 := n4_
                    have GE388 := n5_
                    have NB340_388 := n6_
                    have NB388_340 := n7_
                    clear n0_ n1_ n2_ n3_ n4_ n5_ n6_ n7_
                    clear hb hbox hg
                    refine hK.out _ _ ⟨(blk_cell BK340.out 0).trans rfl, (blk_cell BK340.out 1).trans rfl, (blk_cell BK340.out 2).trans rfl, (blk_cell BK340.out 3).trans rfl, (blk_cell BK340.out 4).trans rfl, (blk_cell BK340.out 5).trans rfl, (blk_cell BK340.out 6).trans rfl, (blk_cell BK340.out 7).trans rfl⟩ (fun hHeld => ?_)
                    clear hK K
                    refine norm_ (a' := ?_) ?_ ?_
                    rotate_left
                    · show Act.put _ (some 9) _ = _
                      simp only [Act.put, List.setIfInBounds_toArray, List.set_cons_zero, List.set_cons_succ, i64_w, i32_w]
                      rfl
                    refine one_ (i := 0) (N := some 70) #[true, true, false, true, false] rfl rfl (by kernel_rfl) (by decide) (fun K hK => ?_)
                    refine goes_ Tryd.func28 (by kernel_rfl) rfl #[.int .i64 0] (by rfl) rfl rfl (by (try simp only [List.map_toArray, List.map_cons, List.map_nil]); first | done | rfl | (simp only [List.length_drop, List.length_take]; rfl)) ?_
                    with_reducible refine (marshallinglaw07_lit.calls 0 t368 t369 t370 t371 t372 t373 t374 t375 _ A50.out).mono ?_
                    rintro e w58 ⟨v376, rfl, ho0, hb⟩
                    refine ⟨_, rfl, ?_⟩
                    have n0_ := Aside0.mk (Kd.N_elder' (by (with_reducible repeat (first | apply Kd.N_alloc | apply Kd.N_drewN | apply Kd.N_drew)); exact HO_341007.out) (Kd.R_base ho0) hb)
                    have n1_ := Aside0.mk (Kd.N_lower (Kd.N_mono (ok' := fun k_ => some k_ ≠ (.slice Ao55 x341007_16.length co55 : Value).ownBlock ∧ k_ ≠ gb340 ∧ k_ ≠ gb388) (Kd.R_N (Kd.R_bound ho0)) (fun k_ hk_ => ⟨(Kd.fresh' (Kd.N_lt (by (with_reducible repeat (first | apply Kd.N_alloc | apply Kd.N_drewN | apply Kd.N_drew)); exact HO_341007.out)) k_ hk_.2.1), (Kd.freshB (g := gb340) (o := .cells #[.int .i64 x341000_16, .string x341001_16, .int .i64 x341002_16, .int .i64 x341003_16, .string x341004_16, .string x341005_16, .string x341006_16, .slice Ao55 x341007_16.length co55] 26 (0, 0)) (by (with_reducible repeat (first | refine blk_drewN ?_ _ | refine blk_drew ?_ | refine blk_alloc ?_ _)); exact BK340.out) k_ hk_.2.1), (Kd.freshB (g := gb388) (o := .cells #[.int .i64 0, .string (⟨#[]⟩ : ByteArray), .int .i64 0, .int .i64 0, .string (⟨#[]⟩ : ByteArray), .string (⟨#[]⟩ : ByteArray), .string (⟨#[]⟩ : ByteArray), .slice none 0 0] 26 (0, 0)) (by (with_reducible repeat (first | refine blk_drewN ?_ _ | refine blk_drew ?_ | refine blk_alloc ?_ _)); exact BK388.out) k_ hk_.2.1)⟩)) (below_size (by repeat (first | (with_reducible first | exact HB.out | apply below_alloc | apply pw_below_drewN | apply below_drew1 | refine below_set ?_ GE340.out | refine below_set ?_ GE388.out) | exact HB.out))))
                    have n2_ := Aside0.mk (blk_below (g := gb340) (o := .cells #[.int .i64 x341000_16, .string x341001_16, .int .i64 x341002_16, .int .i64 x341003_16, .string x341004_16, .string x341005_16, .string x341006_16, .slice Ao55 x341007_16.length co55] 26 (0, 0)) (by (with_reducible repeat (first | refine blk_drewN ?_ _ | refine blk_drew ?_ | refine blk_alloc ?_ _)); exact BK340.out) hb)
                    have n3_ := Aside0.mk (blk_below (g := gb388) (o := .cells #[.int .i64 0, .string (⟨#[]⟩ : ByteArray), .int .i64 0, .int .i64 0, .string (⟨#[]⟩ : ByteArray), .string (⟨#[]⟩ : ByteArray), .string (⟨#[]⟩ : ByteArray), .slice none 0 0] 26 (0, 0)) (by (with_reducible repeat (first | refine blk_drewN ?_ _ | refine blk_drew ?_ | refine blk_alloc ?_ _)); exact BK388.out) hb)
                    have n4_ := Aside0.mk (below_step (by repeat (first | (with_reducible first | exact HB.out | apply below_alloc | apply pw_below_drewN | apply below_drew1 | refine below_set ?_ GE340.out | refine below_set ?_ GE388.out) | exact HB.out)) hb)
                    clear HO_341007
                    clear BK340
                    clear BK388
                    clear HB
                    have HO_341007 := n0_
                    have HO377 := n1_
                    have BK340 := n2_
                    have BK388 := n3_
                    have HB := n4_
                    clear n0_ n1_ n2_ n3_ n4_
                    (try clear hb)
                    (try clear hb2)
                    (try clear hk)
                    (try clear hi)
                    (try clear ho0)
                    obtain ⟨Ao59, co59, eo59⟩ := Kd.N_slice HO377.out
                    (first | subst eo59 | (injection eo59 with f1_ f2_ f3_; have f4_ := f1_.symm; have f5_ := f3_.symm; clear f1_ f2_ f3_; subst f4_; subst f5_))
                    refine hK.out _ _ ⟨(blk_cell BK340.out 0).trans rfl, (blk_cell BK340.out 1).trans rfl, (blk_cell BK340.out 2).trans rfl, (blk_cell BK340.out 3).trans rfl, (blk_cell BK340.out 4).trans rfl, (blk_cell BK340.out 5).trans rfl, (blk_cell BK340.out 6).trans rfl, (blk_cell BK340.out 7).trans rfl⟩ (fun hHeld => ?_)
                    clear hK K
                    refine norm_ (a' := ?_) ?_ ?_
                    rotate_left
                    · show Act.put _ (some 70) _ = _
                      simp only [Act.put, List.setIfInBounds_toArray, List.set_cons_zero, List.set_cons_succ, i64_w, i32_w]
                      rfl
                    refine one_ (i := 2) (N := some 72) #[true, true, true, true, false] rfl rfl (by kernel_rfl) (by decide) (fun K hK => ?_)
                    refine goes_ Tryd.func26 (by kernel_rfl) rfl #[.string (⟨#[43]⟩ : ByteArray), .agg #[.int .i64 t368, .string t369, .int .i64 t370, .int .i64 t371, .string t372, .string t373, .string t374, .slice Ao59 t375.length co59], .agg #[.int .i64 x341000_16, .string x341001_16, .int .i64 x341002_16, .int .i64 x341003_16, .string x341004_16, .string x341005_16, .string x341006_16, .slice Ao55 x341007_16.length co55]] (by rfl) rfl rfl (by (try simp only [List.map_toArray, List.map_cons, List.map_nil]); first | done | rfl | (simp only [List.length_drop, List.length_take]; rfl)) ?_
                    with_reducible refine (marshallinglaw07_two.calls (⟨#[43]⟩ : ByteArray) t368 t369 t370 t371 t372 t373 t374 (fun k_ => (some k_ ≠ (.slice Ao55 x341007_16.length co55 : Value).ownBlock ∧ (k_ ≠ gb340 ∧ k_ ≠ gb388))) _ _ t375 x341000_16 x341001_16 x341002_16 x341003_16 x341004_16 x341005_16 x341006_16 (fun k_ => ((k_ ≠ gb340 ∧ k_ ≠ gb388) ∧ some k_ ≠ (.slice Ao59 t375.length co59 : Value).ownBlock)) _ _ x341007_16 t378 t379 t380 t381 t382 t383 t384 t385 _ ?side1 ?side2 A51.out).mono ?_
                    (case side1 => exact Kd.N_V (HO377.out))
                    (case side2 => exact Kd.N_V (HO_341007.out))
                    rintro e w60 ⟨v386, rfl, ho0, hb⟩
                    refine ⟨_, rfl, ?_⟩
                    have n0_ := Aside0.mk (Kd.N_elder' (by (with_reducible repeat (first | apply Kd.N_alloc | apply Kd.N_drewN | apply Kd.N_drew)); exact HO_341007.out) (Kd.N_base ho0) hb)
                    have n1_ := Aside0.mk (Kd.N_elder' (by (with_reducible repeat (first | apply Kd.N_alloc | apply Kd.N_drewN | apply Kd.N_drew)); exact HO377.out) (Kd.N_base ho0) hb)
                    have n2_ := Aside0.mk (Kd.N_lower (Kd.N_mono (ok' := fun k_ => k_ ≠ gb340 ∧ k_ ≠ gb388) ho0 (fun k_ hk_ => ⟨Or.elim hk_ (fun hs_ => Or.elim hs_ (fun hs_ => hs_.2.1) (fun hs_ => hs_.1.1)) (fun hn_ => (Kd.freshB (g := gb340) (o := .cells #[.int .i64 x341000_16, .string x341001_16, .int .i64 x341002_16, .int .i64 x341003_16, .string x341004_16, .string x341005_16, .string x341006_16, .slice Ao55 x341007_16.length co55] 26 (0, 0)) (by (with_reducible repeat (first | refine blk_drewN ?_ _ | refine blk_drew ?_ | refine blk_alloc ?_ _)); exact BK340.out) k_ hn_)), Or.elim hk_ (fun hs_ => Or.elim hs_ (fun hs_ => hs_.2.2) (fun hs_ => hs_.1.2)) (fun hn_ => (Kd.freshB (g := gb388) (o := .cells #[.int .i64 0, .string (⟨#[]⟩ : ByteArray), .int .i64 0, .int .i64 0, .string (⟨#[]⟩ : ByteArray), .string (⟨#[]⟩ : ByteArray), .string (⟨#[]⟩ : ByteArray), .slice none 0 0] 26 (0, 0)) (by (with_reducible repeat (first | refine blk_drewN ?_ _ | refine blk_drew ?_ | refine blk_alloc ?_ _)); exact BK388.out) k_ hn_))⟩)) (below_size (by repeat (first | (with_reducible first | exact HB.out | apply below_alloc | apply pw_below_drewN | apply below_drew1 | refine below_set ?_ GE340.out | refine below_set ?_ GE388.out) | exact HB.out))))
                    have n3_ := Aside0.mk (blk_below (g := gb340) (o := .cells #[.int .i64 x341000_16, .string x341001_16, .int .i64 x341002_16, .int .i64 x341003_16, .string x341004_16, .string x341005_16, .string x341006_16, .slice Ao55 x341007_16.length co55] 26 (0, 0)) (by (with_reducible repeat (first | refine blk_drewN ?_ _ | refine blk_drew ?_ | refine blk_alloc ?_ _)); exact BK340.out) hb)
                    have n4_ := Aside0.mk (blk_below (g := gb388) (o := .cells #[.int .i64 0, .string (⟨#[]⟩ : ByteArray), .int .i64 0, .int .i64 0, .string (⟨#[]⟩ : ByteArray), .string (⟨#[]⟩ : ByteArray), .string (⟨#[]⟩ : ByteArray), .slice none 0 0] 26 (0, 0)) (by (with_reducible repeat (first | refine blk_drewN ?_ _ | refine blk_drew ?_ | refine blk_alloc ?_ _)); exact BK388.out) hb)
                    have n5_ := Aside0.mk (below_step (by repeat (first | (with_reducible first | exact HB.out | apply below_alloc | apply pw_below_drewN | apply below_drew1 | refine below_set ?_ GE340.out | refine below_set ?_ GE388.out) | exact HB.out)) hb)
                    clear HO_341007
                    clear HO377
                    clear BK340
                    clear BK388
                    clear HB
                    have HO_341007 := n0_
                    have HO377 := n1_
                    have HO387 := n2_
                    have BK340 := n3_
                    have BK388 := n4_
                    have HB := n5_
                    clear n0_ n1_ n2_ n3_ n4_ n5_
                    (try clear hb)
                    (try clear hb2)
                    (try clear hk)
                    (try clear hi)
                    (try clear ho0)
                    refine hK.out _ _ ⟨(blk_cell BK340.out 0).trans rfl, (blk_cell BK340.out 1).trans rfl, (blk_cell BK340.out 2).trans rfl, (blk_cell BK340.out 3).trans rfl, (blk_cell BK340.out 4).trans rfl, (blk_cell BK340.out 5).trans rfl, (blk_cell BK340.out 6).trans rfl, (blk_cell BK340.out 7).trans rfl⟩ (fun hHeld => ?_)
                    clear hK K
                    refine norm_ (a' := ?_) ?_ ?_
                    rotate_left
                    · show Act.put _ (some 72) _ = _
                      simp only [Act.put, List.setIfInBounds_toArray, List.set_cons_zero, List.set_cons_succ, i64_w, i32_w]
                      rfl
                    exact norm_ (by simp only [putAll, Act.put, List.setIfInBounds_toArray, List.set_cons_zero, List.set_cons_succ]) (hCont (.slice Ao59 t375.length co59, v386, gb388) _ ⟨hHeld, (by (with_reducible repeat (first | apply Kd.N_alloc | apply Kd.N_drewN | apply Kd.N_drew)); exact Kd.N_mono HO377.out (fun _ hk => ⟨hk.2, ⟨hk.1.1, ⟨hk.1.2.1, hk.1.2.2⟩⟩⟩)), (by (with_reducible repeat (first | apply Kd.N_alloc | apply Kd.N_drewN | apply Kd.N_drew)); exact HO387.out), (by (with_reducible repeat (first | apply Kd.N_alloc | apply Kd.N_drewN | apply Kd.N_drew)); exact Kd.N_mono HO_341007.out (fun _ hk => ⟨hk.1.2, ⟨hk.2, ⟨hk.1.1.1, hk.1.1.2⟩⟩⟩)), (by (with_reducible repeat (first | refine blk_drewN ?_ _ | refine blk_drew ?_ | refine blk_alloc ?_ _)); exact BK340.out), (by (with_reducible repeat (first | refine blk_drewN ?_ _ | refine blk_drew ?_ | refine blk_alloc ?_ _)); exact BK388.out), GW388.out, GE388.out, NB340_388.out, NB388_340.out, (by repeat (first | (with_reducible first | exact HB.out | apply below_alloc | apply pw_below_drewN | apply below_drew1 | refine below_set ?_ GE340.out | refine below_set ?_ GE388.out) | exact HB.out))⟩)
                rintro ⟨v376, v386, gb388⟩ w61 ⟨hS_, h0_, h1_, h2_, h3_, h4_, h5_, h6_, h7_, h8_, h9_⟩
                have n0_ : Aside0 (Kd.N k26 26 w61 w.heap.size (fun k_ => some k_ ≠ (v386 : Value).ownBlock ∧ some k_ ≠ (.slice Ao55 x341007_16.length co55 : Value).ownBlock ∧ k_ ≠ gb340 ∧ k_ ≠ gb388) v376 t375) := ⟨h0_⟩
                have n1_ : Aside0 (Kd.N k26 26 w61 w.heap.size (fun k_ => k_ ≠ gb340 ∧ k_ ≠ gb388) v386 t385) := ⟨h1_⟩
                have n2_ : Aside0 (Kd.N k26 26 w61 w.heap.size (fun k_ => some k_ ≠ (v376 : Value).ownBlock ∧ some k_ ≠ (v386 : Value).ownBlock ∧ k_ ≠ gb340 ∧ k_ ≠ gb388) (.slice Ao55 x341007_16.length co55) x341007_16) := ⟨h2_⟩
                have n3_ : Aside0 (w61.heap[gb340]? = some (.cells #[.int .i64 x341000_16, .string x341001_16, .int .i64 x341002_16, .int .i64 x341003_16, .string x341004_16, .string x341005_16, .string x341006_16, .slice Ao55 x341007_16.length co55] 26 (0, 0))) := ⟨h3_⟩
                have n4_ : Aside0 (w61.heap[gb388]? = some (.cells #[.int .i64 0, .string (⟨#[]⟩ : ByteArray), .int .i64 0, .int .i64 0, .string (⟨#[]⟩ : ByteArray), .string (⟨#[]⟩ : ByteArray), .string (⟨#[]⟩ : ByteArray), .slice none 0 0] 26 (0, 0))) := ⟨h4_⟩
                have n5_ : Aside0 (w.heap.size ≤ gb388) := ⟨h5_⟩
                have n6_ : Aside0 (w.heap.size ≤ gb388) := ⟨h6_⟩
                have n7_ : Aside0 (gb340 ≠ gb388) := ⟨h7_⟩
                have n8_ : Aside0 (gb388 ≠ gb340) := ⟨h8_⟩
                have n9_ : Aside0 (Below w.heap.size w w61) := ⟨h9_⟩
                clear HO_341007
                clear BK340
                clear HB
                clear h0_ h1_ h2_ h3_ h4_ h5_ h6_ h7_ h8_ h9_
                have HO377 := n0_
                have HO387 := n1_
                have HO_341007 := n2_
                have BK340 := n3_
                have BK388 := n4_
                have GW388 := n5_
                have GE388 := n6_
                have NB340_388 := n7_
                have NB388_340 := n8_
                have HB := n9_
                clear n0_ n1_ n2_ n3_ n4_ n5_ n6_ n7_ n8_ n9_
                have hHeld : w61.cell? ⟨gb340, 0, none⟩ = some (.int .i64 x341000_16) ∧ w61.cell? ⟨gb340, 1, none⟩ = some (.string x341001_16) ∧ w61.cell? ⟨gb340, 2, none⟩ = some (.int .i64 x341002_16) ∧ w61.cell? ⟨gb340, 3, none⟩ = some (.int .i64 x341003_16) ∧ w61.cell? ⟨gb340, 4, none⟩ = some (.string x341004_16) ∧ w61.cell? ⟨gb340, 5, none⟩ = some (.string x341005_16) ∧ w61.cell? ⟨gb340, 6, none⟩ = some (.string x341006_16) ∧ w61.cell? ⟨gb340, 7, none⟩ = some (.slice Ao55 x341007_16.length co55) := hS_
                obtain ⟨Ao69, co69, eo69⟩ := Kd.N_slice HO387.out
                (first | subst eo69 | (injection eo69 with f1_ f2_ f3_; have f4_ := f1_.symm; have f5_ := f3_.symm; clear f1_ f2_ f3_; subst f4_; subst f5_))
                refine norm_ (a' := ?_) ?_ ?_
                rotate_left
                · simp only [putAll, Act.put, List.setIfInBounds_toArray, List.set_cons_zero, List.set_cons_succ]
                  rfl
                refine one_ (i := 4) (N := none) #[true, true, true, true, true] rfl rfl (by kernel_rfl) (by decide) (fun K hK => ?_)
                have hs62 : w61.cell? ⟨gb388, 0, none⟩ = some (.int .i64 0) := (blk_cell BK388.out 0).trans rfl
                have hfs62 := blk_frozen BK388.out 0
                have hns62_0 := NB340_388.out
                have hms62_0 := NB388_340.out
                have hs63 : w61.cell? ⟨gb388, 1, none⟩ = some (.string (⟨#[]⟩ : ByteArray)) := (blk_cell BK388.out 1).trans rfl
                have hfs63 := blk_frozen BK388.out 1
                have hns63_0 := NB340_388.out
                have hms63_0 := NB388_340.out
                have hs64 : w61.cell? ⟨gb388, 2, none⟩ = some (.int .i64 0) := (blk_cell BK388.out 2).trans rfl
                have hfs64 := blk_frozen BK388.out 2
                have hns64_0 := NB340_388.out
                have hms64_0 := NB388_340.out
                have hs65 : w61.cell? ⟨gb388, 3, none⟩ = some (.int .i64 0) := (blk_cell BK388.out 3).trans rfl
                have hfs65 := blk_frozen BK388.out 3
                have hns65_0 := NB340_388.out
                have hms65_0 := NB388_340.out
                have hs66 : w61.cell? ⟨gb388, 4, none⟩ = some (.string (⟨#[]⟩ : ByteArray)) := (blk_cell BK388.out 4).trans rfl
                have hfs66 := blk_frozen BK388.out 4
                have hns66_0 := NB340_388.out
                have hms66_0 := NB388_340.out
                have hs67 : w61.cell? ⟨gb388, 5, none⟩ = some (.string (⟨#[]⟩ : ByteArray)) := (blk_cell BK388.out 5).trans rfl
                have hfs67 := blk_frozen BK388.out 5
                have hns67_0 := NB340_388.out
                have hms67_0 := NB388_340.out
                have hs68 : w61.cell? ⟨gb388, 6, none⟩ = some (.string (⟨#[]⟩ : ByteArray)) := (blk_cell BK388.out 6).trans rfl
                have hfs68 := blk_frozen BK388.out 6
                have hns68_0 := NB340_388.out
                have hms68_0 := NB388_340.out
                have hs70 : w61.cell? ⟨gb388, 7, none⟩ = some (.slice none 0 0) := (blk_cell BK388.out 7).trans rfl
                have hfs70 := blk_frozen BK388.out 7
                have hns70_0 := NB340_388.out
                have hms70_0 := NB388_340.out
                refine skip_ (w1 := ?_) (by rfl) rfl ?_ ?_
                rotate_left
                · go_simp
                  rfl
                refine hK.out _ _ ⟨((cell_far (p := ⟨gb388, _, none⟩) NB340_388.out _).trans (((cell_far (p := ⟨gb388, _, none⟩) NB340_388.out _).trans (((cell_far (p := ⟨gb388, _, none⟩) NB340_388.out _).trans (((cell_far (p := ⟨gb388, _, none⟩) NB340_388.out _).trans (((cell_far (p := ⟨gb388, _, none⟩) NB340_388.out _).trans (((cell_far (p := ⟨gb388, _, none⟩) NB340_388.out _).trans (((cell_far (p := ⟨gb388, _, none⟩) NB340_388.out _).trans (((cell_far (p := ⟨gb388, _, none⟩) NB340_388.out _).trans (hHeld.1)))))))))))))))), ((cell_far (p := ⟨gb388, _, none⟩) NB340_388.out _).trans (((cell_far (p := ⟨gb388, _, none⟩) NB340_388.out _).trans (((cell_far (p := ⟨gb388, _, none⟩) NB340_388.out _).trans (((cell_far (p := ⟨gb388, _, none⟩) NB340_388.out _).trans (((cell_far (p := ⟨gb388, _, none⟩) NB340_388.out _).trans (((cell_far (p := ⟨gb388, _, none⟩) NB340_388.out _).trans (((cell_far (p := ⟨gb388, _, none⟩) NB340_388.out _).trans (((cell_far (p := ⟨gb388, _, none⟩) NB340_388.out _).trans (hHeld.2.1)))))))))))))))), ((cell_far (p := ⟨gb388, _, none⟩) NB340_388.out _).trans (((cell_far (p := ⟨gb388, _, none⟩) NB340_388.out _).trans (((cell_far (p := ⟨gb388, _, none⟩) NB340_388.out _).trans (((cell_far (p := ⟨gb388, _, none⟩) NB340_388.out _).trans (((cell_far (p := ⟨gb388, _, none⟩) NB340_388.out _).trans (((cell_far (p := ⟨gb388, _, none⟩) NB340_388.out _).trans (((cell_far (p := ⟨gb388, _, none⟩) NB340_388.out _).trans (((cell_far (p := ⟨gb388, _, none⟩) NB340_388.out _).trans (hHeld.2.2.1)))))))))))))))), ((cell_far (p := ⟨gb388, _, none⟩) NB340_388.out _).trans (((cell_far (p := ⟨gb388, _, none⟩) NB340_388.out _).trans (((cell_far (p := ⟨gb388, _, none⟩) NB340_388.out _).trans (((cell_far (p := ⟨gb388, _, none⟩) NB340_388.out _).trans (((cell_far (p := ⟨gb388, _, none⟩) NB340_388.out _).trans (((cell_far (p := ⟨gb388, _, none⟩) NB340_388.out _).trans (((cell_far (p := ⟨gb388, _, none⟩) NB340_388.out _).trans (((cell_far (p := ⟨gb388, _, none⟩) NB340_388.out _).trans (hHeld.2.2.2.1)))))))))))))))), ((cell_far (p := ⟨gb388, _, none⟩) NB340_388.out _).trans (((cell_far (p := ⟨gb388, _, none⟩) NB340_388.out _).trans (((cell_far (p := ⟨gb388, _, none⟩) NB340_388.out _).trans (((cell_far (p := ⟨gb388, _, none⟩) NB340_388.out _).trans (((cell_far (p := ⟨gb388, _, none⟩) NB340_388.out _).trans (((cell_far (p := ⟨gb388, _, none⟩) NB340_388.out _).trans (((cell_far (p := ⟨gb388, _, none⟩) NB340_388.out _).trans (((cell_far (p := ⟨gb388, _, none⟩) NB340_388.out _).trans (hHeld.2.2.2.2.1)))))))))))))))), ((cell_far (p := ⟨gb388, _, none⟩) NB340_388.out _).trans (((cell_far (p := ⟨gb388, _, none⟩) NB340_388.out _).trans (((cell_far (p := ⟨gb388, _, none⟩) NB340_388.out _).trans (((cell_far (p := ⟨gb388, _, none⟩) NB340_388.out _).trans (((cell_far (p := ⟨gb388, _, none⟩) NB340_388.out _).trans (((cell_far (p := ⟨gb388, _, none⟩) NB340_388.out _).trans (((cell_far (p := ⟨gb388, _, none⟩) NB340_388.out _).trans (((cell_far (p := ⟨gb388, _, none⟩) NB340_388.out _).trans (hHeld.2.2.2.2.2.1)))))))))))))))), ((cell_far (p := ⟨gb388, _, none⟩) NB340_388.out _).trans (((cell_far (p := ⟨gb388, _, none⟩) NB340_388.out _).trans (((cell_far (p := ⟨gb388, _, none⟩) NB340_388.out _).trans (((cell_far (p := ⟨gb388, _, none⟩) NB340_388.out _).trans (((cell_far (p := ⟨gb388, _, none⟩) NB340_388.out _).trans (((cell_far (p := ⟨gb388, _, none⟩) NB340_388.out _).trans (((cell_far (p := ⟨gb388, _, none⟩) NB340_388.out _).trans (((cell_far (p := ⟨gb388, _, none⟩) NB340_388.out _).trans (hHeld.2.2.2.2.2.2.1)))))))))))))))), ((cell_far (p := ⟨gb388, _, none⟩) NB340_388.out _).trans (((cell_far (p := ⟨gb388, _, none⟩) NB340_388.out _).trans (((cell_far (p := ⟨gb388, _, none⟩) NB340_388.out _).trans (((cell_far (p := ⟨gb388, _, none⟩) NB340_388.out _).trans (((cell_far (p := ⟨gb388, _, none⟩) NB340_388.out _).trans (((cell_far (p := ⟨gb388, _, none⟩) NB340_388.out _).trans (((cell_far (p := ⟨gb388, _, none⟩) NB340_388.out _).trans (((cell_far (p := ⟨gb388, _, none⟩) NB340_388.out _).trans (hHeld.2.2.2.2.2.2.2))))))))))))))))⟩ (fun hHeld => ?_)
                clear hK K
                refine done_ (by kernel_rfl) ?_
                have hnb71 := NB340_388.out
                have hnc71 := NB388_340.out
                have hcz72_0 : w61.cell? ⟨gb340, 0, none⟩ = some (.int .i64 x341000_16) := (blk_cell BK340.out 0).trans rfl
                have hcz72_1 : w61.cell? ⟨gb340, 1, none⟩ = some (.string x341001_16) := (blk_cell BK340.out 1).trans rfl
                have hcz72_2 : w61.cell? ⟨gb340, 2, none⟩ = some (.int .i64 x341002_16) := (blk_cell BK340.out 2).trans rfl
                have hcz72_3 : w61.cell? ⟨gb340, 3, none⟩ = some (.int .i64 x341003_16) := (blk_cell BK340.out 3).trans rfl
                have hcz72_4 : w61.cell? ⟨gb340, 4, none⟩ = some (.string x341004_16) := (blk_cell BK340.out 4).trans rfl
                have hcz72_5 : w61.cell? ⟨gb340, 5, none⟩ = some (.string x341005_16) := (blk_cell BK340.out 5).trans rfl
                have hcz72_6 : w61.cell? ⟨gb340, 6, none⟩ = some (.string x341006_16) := (blk_cell BK340.out 6).trans rfl
                have hcz72_7 : w61.cell? ⟨gb340, 7, none⟩ = some (.slice Ao55 x341007_16.length co55) := (blk_cell BK340.out 7).trans rfl
                have hfz72_0 := blk_frozen BK340.out 0
                have hfz72_1 := blk_frozen BK340.out 1
                have hfz72_2 := blk_frozen BK340.out 2
                have hfz72_3 := blk_frozen BK340.out 3
                have hfz72_4 := blk_frozen BK340.out 4
                have hfz72_5 := blk_frozen BK340.out 5
                have hfz72_6 := blk_frozen BK340.out 6
                have hfz72_7 := blk_frozen BK340.out 7
                try go_wp2_with (first | (go_at_call 12; (with_reducible refine (expr_Right.calls kj16 x341000_16 x341001_16 x341002_16 x341003_16 x341004_16 x341005_16 x341006_16 _ _ x341007_16 false _ ?side1 ?side2 ?side3 A52.out).mono ?_); (case side1 => refine (Kd.N_reads' (e := 26) (base := w.heap.size) (ok := fun k_ => (some k_ ≠ (v376 : Value).ownBlock ∧ (some k_ ≠ (.slice Ao69 t385.length co69 : Value).ownBlock ∧ (k_ ≠ gb340 ∧ k_ ≠ gb388)))) (n := x341007_16.length) (c := co55) ?_).2.2; exact (by (with_reducible repeat (first | apply Kd.N_alloc | apply Kd.N_drewN | apply Kd.N_drew)); exact (Kd.N_mono (Kd.N_far (p := ⟨gb388, 7, none⟩) (Kd.N_far (p := ⟨gb388, 6, none⟩) (Kd.N_far (p := ⟨gb388, 5, none⟩) (Kd.N_far (p := ⟨gb388, 4, none⟩) (Kd.N_far (p := ⟨gb388, 3, none⟩) (Kd.N_far (p := ⟨gb388, 2, none⟩) (Kd.N_far (p := ⟨gb388, 1, none⟩) (Kd.N_far (p := ⟨gb388, 0, none⟩) (Kd.N_mono HO_341007.out (fun k_ hk => (⟨hk, hk.2.2.2⟩ : _ ∧ k_ ≠ gb388))) (fun _ hk => hk.2) (.int .i64 t378)) (fun _ hk => hk.2) (.string t379)) (fun _ hk => hk.2) (.int .i64 t380)) (fun _ hk => hk.2) (.int .i64 t381)) (fun _ hk => hk.2) (.string t382)) (fun _ hk => hk.2) (.string t383)) (fun _ hk => hk.2) (.string t384)) (fun _ hk => hk.2) (.slice Ao69 t385.length co69)) (fun _ h_ => h_.1)))); (case side2 => exact (Kd.N_reads' HO_341007.out).2.1); (case side3 => exact Glob.below HG.out (by repeat (first | (with_reducible first | exact HB.out | apply below_alloc | apply pw_below_drewN | apply below_drew1 | refine below_set ?_ GE340.out | refine below_set ?_ GE388.out) | exact HB.out))); clear A52; rintro e w73 ⟨rfl, hb⟩; have n0_ := Aside0.mk (Kd.N_below (by (with_reducible repeat (first | apply Kd.N_alloc | apply Kd.N_drewN | apply Kd.N_drew)); exact (Kd.N_mono (Kd.N_far (p := ⟨gb388, 7, none⟩) (Kd.N_far (p := ⟨gb388, 6, none⟩) (Kd.N_far (p := ⟨gb388, 5, none⟩) (Kd.N_far (p := ⟨gb388, 4, none⟩) (Kd.N_far (p := ⟨gb388, 3, none⟩) (Kd.N_far (p := ⟨gb388, 2, none⟩) (Kd.N_far (p := ⟨gb388, 1, none⟩) (Kd.N_far (p := ⟨gb388, 0, none⟩) (Kd.N_mono HO_341007.out (fun k_ hk => (⟨hk, hk.2.2.2⟩ : _ ∧ k_ ≠ gb388))) (fun _ hk => hk.2) (.int .i64 t378)) (fun _ hk => hk.2) (.string t379)) (fun _ hk => hk.2) (.int .i64 t380)) (fun _ hk => hk.2) (.int .i64 t381)) (fun _ hk => hk.2) (.string t382)) (fun _ hk => hk.2) (.string t383)) (fun _ hk => hk.2) (.string t384)) (fun _ hk => hk.2) (.slice Ao69 t385.length co69)) (fun _ h_ => h_.1))) hb); have n1_ := Aside0.mk (Kd.N_below (by (with_reducible repeat (first | apply Kd.N_alloc | apply Kd.N_drewN | apply Kd.N_drew)); exact (Kd.N_mono (Kd.N_far (p := ⟨gb388, 7, none⟩) (Kd.N_far (p := ⟨gb388, 6, none⟩) (Kd.N_far (p := ⟨gb388, 5, none⟩) (Kd.N_far (p := ⟨gb388, 4, none⟩) (Kd.N_far (p := ⟨gb388, 3, none⟩) (Kd.N_far (p := ⟨gb388, 2, none⟩) (Kd.N_far (p := ⟨gb388, 1, none⟩) (Kd.N_far (p := ⟨gb388, 0, none⟩) (Kd.N_mono HO377.out (fun k_ hk => (⟨hk, hk.2.2.2⟩ : _ ∧ k_ ≠ gb388))) (fun _ hk => hk.2) (.int .i64 t378)) (fun _ hk => hk.2) (.string t379)) (fun _ hk => hk.2) (.int .i64 t380)) (fun _ hk => hk.2) (.int .i64 t381)) (fun _ hk => hk.2) (.string t382)) (fun _ hk => hk.2) (.string t383)) (fun _ hk => hk.2) (.string t384)) (fun _ hk => hk.2) (.slice Ao69 t385.length co69)) (fun _ h_ => h_.1))) hb); have n2_ := Aside0.mk (Kd.N_below (by (with_reducible repeat (first | apply Kd.N_alloc | apply Kd.N_drewN | apply Kd.N_drew)); exact (Kd.N_mono (Kd.N_far (p := ⟨gb388, 7, none⟩) (Kd.N_far (p := ⟨gb388, 6, none⟩) (Kd.N_far (p := ⟨gb388, 5, none⟩) (Kd.N_far (p := ⟨gb388, 4, none⟩) (Kd.N_far (p := ⟨gb388, 3, none⟩) (Kd.N_far (p := ⟨gb388, 2, none⟩) (Kd.N_far (p := ⟨gb388, 1, none⟩) (Kd.N_far (p := ⟨gb388, 0, none⟩) (Kd.N_mono HO387.out (fun k_ hk => (⟨hk, hk.2⟩ : _ ∧ k_ ≠ gb388))) (fun _ hk => hk.2) (.int .i64 t378)) (fun _ hk => hk.2) (.string t379)) (fun _ hk => hk.2) (.int .i64 t380)) (fun _ hk => hk.2) (.int .i64 t381)) (fun _ hk => hk.2) (.string t382)) (fun _ hk => hk.2) (.string t383)) (fun _ hk => hk.2) (.string t384)) (fun _ hk => hk.2) (.slice Ao69 t385.length co69)) (fun _ h_ => h_.1))) hb); have n3_ := Aside0.mk (blk_below (g := gb340) (o := .cells #[.int .i64 x341000_16, .string x341001_16, .int .i64 x341002_16, .int .i64 x341003_16, .string x341004_16, .string x341005_16, .string x341006_16, .slice Ao55 x341007_16.length co55] 26 (0, 0)) (by (with_reducible repeat (first | refine blk_drewN ?_ _ | refine blk_drew ?_ | refine blk_alloc ?_ _)); refine blk_far ?_ NB340_388.out _; (with_reducible repeat (first | refine blk_drewN ?_ _ | refine blk_drew ?_ | refine blk_alloc ?_ _)); refine blk_far ?_ NB340_388.out _; (with_reducible repeat (first | refine blk_drewN ?_ _ | refine blk_drew ?_ | refine blk_alloc ?_ _)); refine blk_far ?_ NB340_388.out _; (with_reducible repeat (first | refine blk_drewN ?_ _ | refine blk_drew ?_ | refine blk_alloc ?_ _)); refine blk_far ?_ NB340_388.out _; (with_reducible repeat (first | refine blk_drewN ?_ _ | refine blk_drew ?_ | refine blk_alloc ?_ _)); refine blk_far ?_ NB340_388.out _; (with_reducible repeat (first | refine blk_drewN ?_ _ | refine blk_drew ?_ | refine blk_alloc ?_ _)); refine blk_far ?_ NB340_388.out _; (with_reducible repeat (first | refine blk_drewN ?_ _ | refine blk_drew ?_ | refine blk_alloc ?_ _)); refine blk_far ?_ NB340_388.out _; (with_reducible repeat (first | refine blk_drewN ?_ _ | refine blk_drew ?_ | refine blk_alloc ?_ _)); refine blk_far ?_ NB340_388.out _; (with_reducible repeat (first | refine blk_drewN ?_ _ | refine blk_drew ?_ | refine blk_alloc ?_ _)); exact BK340.out) hb); have n4_ := Aside0.mk (blk_below (g := gb388) (o := .cells #[.int .i64 t378, .string t379, .int .i64 t380, .int .i64 t381, .string t382, .string t383, .string t384, .slice Ao69 t385.length co69] 26 (0, 0)) (by (with_reducible repeat (first | refine blk_drewN ?_ _ | refine blk_drew ?_ | refine blk_alloc ?_ _)); refine blk_put (cs := #[.int .i64 t378, .string t379, .int .i64 t380, .int .i64 t381, .string t382, .string t383, .string t384, .slice none 0 0]) ?_ 7 _ rfl; (with_reducible repeat (first | refine blk_drewN ?_ _ | refine blk_drew ?_ | refine blk_alloc ?_ _)); refine blk_put (cs := #[.int .i64 t378, .string t379, .int .i64 t380, .int .i64 t381, .string t382, .string t383, .string (⟨#[]⟩ : ByteArray), .slice none 0 0]) ?_ 6 _ rfl; (with_reducible repeat (first | refine blk_drewN ?_ _ | refine blk_drew ?_ | refine blk_alloc ?_ _)); refine blk_put (cs := #[.int .i64 t378, .string t379, .int .i64 t380, .int .i64 t381, .string t382, .string (⟨#[]⟩ : ByteArray), .string (⟨#[]⟩ : ByteArray), .slice none 0 0]) ?_ 5 _ rfl; (with_reducible repeat (first | refine blk_drewN ?_ _ | refine blk_drew ?_ | refine blk_alloc ?_ _)); refine blk_put (cs := #[.int .i64 t378, .string t379, .int .i64 t380, .int .i64 t381, .string (⟨#[]⟩ : ByteArray), .string (⟨#[]⟩ : ByteArray), .string (⟨#[]⟩ : ByteArray), .slice none 0 0]) ?_ 4 _ rfl; (with_reducible repeat (first | refine blk_drewN ?_ _ | refine blk_drew ?_ | refine blk_alloc ?_ _)); refine blk_put (cs := #[.int .i64 t378, .string t379, .int .i64 t380, .int .i64 0, .string (⟨#[]⟩ : ByteArray), .string (⟨#[]⟩ : ByteArray), .string (⟨#[]⟩ : ByteArray), .slice none 0 0]) ?_ 3 _ rfl; (with_reducible repeat (first | refine blk_drewN ?_ _ | refine blk_drew ?_ | refine blk_alloc ?_ _)); refine blk_put (cs := #[.int .i64 t378, .string t379, .int .i64 0, .int .i64 0, .string (⟨#[]⟩ : ByteArray), .string (⟨#[]⟩ : ByteArray), .string (⟨#[]⟩ : ByteArray), .slice none 0 0]) ?_ 2 _ rfl; (with_reducible repeat (first | refine blk_drewN ?_ _ | refine blk_drew ?_ | refine blk_alloc ?_ _)); refine blk_put (cs := #[.int .i64 t378, .string (⟨#[]⟩ : ByteArray), .int .i64 0, .int .i64 0, .string (⟨#[]⟩ : ByteArray), .string (⟨#[]⟩ : ByteArray), .string (⟨#[]⟩ : ByteArray), .slice none 0 0]) ?_ 1 _ rfl; (with_reducible repeat (first | refine blk_drewN ?_ _ | refine blk_drew ?_ | refine blk_alloc ?_ _)); refine blk_put (cs := #[.int .i64 0, .string (⟨#[]⟩ : ByteArray), .int .i64 0, .int .i64 0, .string (⟨#[]⟩ : ByteArray), .string (⟨#[]⟩ : ByteArray), .string (⟨#[]⟩ : ByteArray), .slice none 0 0]) ?_ 0 _ rfl; (with_reducible repeat (first | refine blk_drewN ?_ _ | refine blk_drew ?_ | refine blk_alloc ?_ _)); exact BK388.out) hb); have n5_ := Aside0.mk (below_step (by repeat (first | (with_reducible first | exact HB.out | apply below_alloc | apply pw_below_drewN | apply below_drew1 | refine below_set ?_ GE340.out | refine below_set ?_ GE388.out) | exact HB.out)) hb); clear HO_341007; clear HO377; clear HO387; clear BK340; clear BK388; clear HB; have HO_341007 := n0_; have HO377 := n1_; have HO387 := n2_; have BK340 := n3_; have BK388 := n4_; have HB := n5_; clear n0_ n1_ n2_ n3_ n4_ n5_; (try clear hb); (try clear hb2); (try clear hk); (try clear hi); have hcz74_0 : w73.cell? ⟨gb388, 0, none⟩ = some (.int .i64 t378) := (blk_cell BK388.out 0).trans rfl; have hcz74_1 : w73.cell? ⟨gb388, 1, none⟩ = some (.string t379) := (blk_cell BK388.out 1).trans rfl; have hcz74_2 : w73.cell? ⟨gb388, 2, none⟩ = some (.int .i64 t380) := (blk_cell BK388.out 2).trans rfl; have hcz74_3 : w73.cell? ⟨gb388, 3, none⟩ = some (.int .i64 t381) := (blk_cell BK388.out 3).trans rfl; have hcz74_4 : w73.cell? ⟨gb388, 4, none⟩ = some (.string t382) := (blk_cell BK388.out 4).trans rfl; have hcz74_5 : w73.cell? ⟨gb388, 5, none⟩ = some (.string t383) := (blk_cell BK388.out 5).trans rfl; have hcz74_6 : w73.cell? ⟨gb388, 6, none⟩ = some (.string t384) := (blk_cell BK388.out 6).trans rfl; have hcz74_7 : w73.cell? ⟨gb388, 7, none⟩ = some (.slice Ao69 t385.length co69) := (blk_cell BK388.out 7).trans rfl; have hfz74_0 := blk_frozen BK388.out 0; have hfz74_1 := blk_frozen BK388.out 1; have hfz74_2 := blk_frozen BK388.out 2; have hfz74_3 := blk_frozen BK388.out 3; have hfz74_4 := blk_frozen BK388.out 4; have hfz74_5 := blk_frozen BK388.out 5; have hfz74_6 := blk_frozen BK388.out 6; have hfz74_7 := blk_frozen BK388.out 7) | (go_at_call 12; (with_reducible refine (expr_Right.calls kj16 t378 t379 t380 t381 t382 t383 t384 _ _ t385 t390 _ ?side1 ?side2 ?side3 A54.out).mono ?_); (case side1 => repeat (first | exact (Kd.N_reads' HO387.out).2.2 | (with_reducible refine Kd.C_alloc ?_ _) | (with_reducible refine Kd.C_drewN ?_ _) | (with_reducible refine Kd.C_drew ?_))); (case side2 => exact (Kd.N_reads' HO387.out).2.1); (case side3 => exact Glob.below HG.out (by repeat (first | (with_reducible first | exact HB.out | apply below_alloc | apply pw_below_drewN | apply below_drew1 | refine below_set ?_ GE340.out | refine below_set ?_ GE388.out) | exact HB.out))); clear A54; rintro e w75 ⟨rfl, hb⟩; have n0_ := Aside0.mk (Kd.N_below (by (with_reducible repeat (first | apply Kd.N_alloc | apply Kd.N_drewN | apply Kd.N_drew)); exact HO_341007.out) hb); have n1_ := Aside0.mk (Kd.N_below (by (with_reducible repeat (first | apply Kd.N_alloc | apply Kd.N_drewN | apply Kd.N_drew)); exact HO377.out) hb); have n2_ := Aside0.mk (Kd.N_below (by (with_reducible repeat (first | apply Kd.N_alloc | apply Kd.N_drewN | apply Kd.N_drew)); exact HO387.out) hb); have n3_ := Aside0.mk (blk_below (g := gb340) (o := .cells #[.int .i64 x341000_16, .string x341001_16, .int .i64 x341002_16, .int .i64 x341003_16, .string x341004_16, .string x341005_16, .string x341006_16, .slice Ao55 x341007_16.length co55] 26 (0, 0)) (by (with_reducible repeat (first | refine blk_drewN ?_ _ | refine blk_drew ?_ | refine blk_alloc ?_ _)); exact BK340.out) hb); have n4_ := Aside0.mk (blk_below (g := gb388) (o := .cells #[.int .i64 t378, .string t379, .int .i64 t380, .int .i64 t381, .string t382, .string t383, .string t384, .slice Ao69 t385.length co69] 26 (0, 0)) (by (with_reducible repeat (first | refine blk_drewN ?_ _ | refine blk_drew ?_ | refine blk_alloc ?_ _)); exact BK388.out) hb); have n5_ := Aside0.mk (below_step (by repeat (first | (with_reducible first | exact HB.out | apply below_alloc | apply pw_below_drewN | apply below_drew1 | refine below_set ?_ GE340.out | refine below_set ?_ GE388.out) | exact HB.out)) hb); clear HO_341007; clear HO377; clear HO387; clear BK340; clear BK388; clear HB; have HO_341007 := n0_; have HO377 := n1_; have HO387 := n2_; have BK340 := n3_; have BK388 := n4_; have HB := n5_; clear n0_ n1_ n2_ n3_ n4_ n5_; (try clear hb); (try clear hb2); (try clear hk); (try clear hi)))
                go_ret
                exact ⟨by first | rfl | (simp [errW_none, errW_some] <;> rfl) | (simp [*, errW_none, errW_some] <;> rfl), by repeat (first | (with_reducible first | exact HB.out | apply below_alloc | apply pw_below_drewN | apply below_drew1 | refine below_set ?_ GE340.out | refine below_set ?_ GE388.out) | exact HB.out)⟩
    · replace c8 := Bool.eq_false_iff.mpr c8
      subst c8
      have H1 : (none) = some r := by rw [if_neg (show ¬ (false = true) by decide)] at H; exact H
      clear H
      have H := H1
      clear H1
      exact absurd H (by simp)
  · replace c5 := Bool.eq_false_iff.mpr c5
    subst c5
    have H1 : (none) = some r := by rw [if_neg (show ¬ (false = true) by decide)] at H; exact H
    clear H
    have H := H1
    clear H1
    exact absurd H (by simp)

end Go.Proofs.YtccaodehgaaheaaDoor.R
