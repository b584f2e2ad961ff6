-- Written by this session's program mprint.py over the kit's printer (with hand-written contracts laid in). Not trusted: Lean checks it.
import Derived.Test.YtcfdnicnjhilkaaDoorJ0
import Derived.Test.YtcfdnicnjhilkaaDoorJ3
import Derived.Test.YtcfdnicnjhilkaaDoorJ5
import Derived.Test.YtcfdnicnjhilkaaDoorJ6
import Derived.Test.YtcfdnicnjhilkaaDoorJ8
import Derived.Test.YtcfdnicnjhilkaaDoorJ9
import Derived.Test.YtcfdnicnjhilkaaDoorJ10
namespace Go.Proofs.YtcfdnicnjhilkaaDoor.J
open Go.RowKit Go.Proofs.YtcfdnicnjhilkaaDoorW.PrintWords Go.Proofs.YtcfdnicnjhilkaaDoorW.PrintLast Go.Proofs.YtcfdnicnjhilkaaDoorW.PrintMore
attribute [local go_sem] max2_int min2_int max_two min_two max_three min_three max_four min_four   -- for this text's walks alone
set_option linter.unusedVariables false
set_option linter.unusedSimpArgs false

/-! ### marshallinglaw03_examples: function 9 -/

def exF : List S60 := [⟨⟨#[120]⟩, 1⟩, ⟨⟨#[121]⟩, 3⟩]
def exG : List S60 := [⟨⟨#[120]⟩, 1⟩, ⟨⟨#[120]⟩, 2⟩]
set_option maxRecDepth 100000 in
theorem ex1 : stream_Get.f 30 ⟨#[97, 40, 120, 58, 105, 110, 116, 44, 121, 58, 116, 101, 120, 116, 41]⟩ = some (⟨#[97]⟩, exF, true) := by kernel_rfl
set_option maxRecDepth 100000 in
theorem ex2 : stream_Get.f 30 ⟨#[97, 40, 120, 58, 105, 110, 116, 44, 41]⟩ = some (⟨#[]⟩, [], false) := by kernel_rfl
set_option maxRecDepth 100000 in
theorem ex3 : stream_Put.f 30 ⟨#[97]⟩ exF = some ⟨#[97, 40, 120, 58, 105, 110, 116, 44, 121, 58, 116, 101, 120, 116, 41]⟩ := by kernel_rfl
set_option maxRecDepth 100000 in
theorem ex4 : stream_Right.f 30 ⟨#[97]⟩ exF = some 0 := by kernel_rfl
set_option maxRecDepth 100000 in
theorem ex5 : stream_Right.f 30 ⟨#[97]⟩ exG = some 11 := by kernel_rfl
set_option maxRecDepth 100000 in
theorem ex6 : stream_All.f 30 [⟨⟨#[97]⟩, exF⟩, ⟨⟨#[97]⟩, exF⟩] = some 11 := by kernel_rfl
set_option maxRecDepth 100000 in
theorem ex7 : stream_At.f ⟨#[97]⟩ exF ⟨#[121]⟩ = some 1 := by kernel_rfl
set_option maxRecDepth 100000 in
theorem ex8 : stream_At.f ⟨#[97]⟩ exF ⟨#[122]⟩ = some (-1) := by kernel_rfl
set_option maxRecDepth 100000 in
theorem ex9 : stream_Find.f [⟨⟨#[97]⟩, exF⟩] ⟨#[97]⟩ = some 0 := by kernel_rfl
set_option maxRecDepth 100000 in
theorem ex10 : stream_Same.f 30 ⟨#[97]⟩ exF ⟨#[97]⟩ exF = some true := by kernel_rfl
set_option maxRecDepth 100000 in
theorem ex11 : stream_IsName.f 30 ⟨#[95, 97, 49]⟩ = some true := by kernel_rfl
set_option maxRecDepth 100000 in
theorem ex12 : stream_IsName.f 30 ⟨#[66, 89]⟩ = some false := by kernel_rfl
set_option maxRecDepth 100000 in
theorem ex13 : stream_IsName.f 30 ⟨#[49, 97]⟩ = some false := by kernel_rfl
set_option maxRecDepth 100000 in
theorem ex14 : stream_IsName.f 30 ⟨#[]⟩ = some false := by kernel_rfl
/-- What stands at any time of 'examples': the stream that was got, the one with a name twice. -/
structure ExSt (A1 : Option Addr) (c1 : Nat) (A2 : Option Addr) (c2 b1 b2 : Nat) (w0 w : World) : Prop where
  below : Below w0.heap.size w0 w
  glob : Glob w
  s0 : w.cell? ⟨b1, 0, none⟩ = some (.string ⟨#[97]⟩)
  s1 : w.cell? ⟨b1, 1, none⟩ = some (.slice A1 2 c1)
  t0 : w.cell? ⟨b2, 0, none⟩ = some (.string ⟨#[97]⟩)
  t1 : w.cell? ⟨b2, 1, none⟩ = some (.slice A2 2 c2)
  fs : Kd.C k60 w A1 2 exF
  ts : Kd.C k60 w A2 2 exG
theorem ExSt.step {A1 c1 A2 c2 b1 b2 w0 w w2} (h : ExSt A1 c1 A2 c2 b1 b2 w0 w) (hb : Below w.heap.size w w2) : ExSt A1 c1 A2 c2 b1 b2 w0 w2 :=
  ⟨h.below.trans (hb.mono h.below.size), h.glob.below hb, pw_cell_below hb h.s0, pw_cell_below hb h.s1, pw_cell_below hb h.t0, pw_cell_below hb h.t1, Kd.C_below h.fs hb, Kd.C_below h.ts hb⟩
theorem add_two (b : Nat) (j : Nat) : (⟨b, 0, none⟩ : Addr).add j = ⟨b, j, none⟩ := by rw [add_at]; simp
theorem two_fields {W : World} {b : Nat} {n m : ByteArray} {x y : Int} (h : ∀ i, W.cell? ⟨b, i, none⟩ = (#[.string n, .int .i64 x, .string m, .int .i64 y] : Array Value)[i]?) : Kd.C k60 W (some ⟨b, 0, none⟩) 2 [⟨n, x⟩, ⟨m, y⟩] := by
  refine ⟨rfl, by decide, fun _ => ⟨_, rfl, fun j p hp => ?_⟩⟩
  rcases j with _ | _ | j
  · cases hp
    refine ⟨[.string n, .int .i64 x], rfl, k60_mk W ⟨n, x⟩, fun i u hu => ?_⟩
    rw [add_two]
    rcases i with _ | _ | i
    · cases hu; exact h 0
    · cases hu; exact h 1
    · simp at hu
  · cases hp
    refine ⟨[.string m, .int .i64 y], rfl, k60_mk W ⟨m, y⟩, fun i u hu => ?_⟩
    rw [add_two]
    rcases i with _ | _ | i
    · cases hu; exact h 2
    · cases hu; exact h 3
    · simp at hu
  · simp at hp
theorem streams_of {W : World} {b : Nat} {A : Option Addr} {c : Nat} (m : Nat) (hm : m ≤ 2) (hc : 2 ≤ c) (hf : Kd.C k60 W A 2 exF) (h : ∀ j, j < m → W.cell? ⟨b, 2 * j, none⟩ = some (.string ⟨#[97]⟩) ∧ W.cell? ⟨b, 2 * j + 1, none⟩ = some (.slice A 2 c)) : Kd.C k28 W (some ⟨b, 0, none⟩) m (List.replicate m ⟨⟨#[97]⟩, exF⟩) := by
  refine ⟨by simp, by omega, fun _ => ⟨_, rfl, fun j p hp => ?_⟩⟩
  obtain ⟨hj, rfl⟩ := List.getElem?_eq_some_iff.1 hp
  rw [List.getElem_replicate]
  rw [List.length_replicate] at hj
  obtain ⟨h0, h1⟩ := h j hj
  refine ⟨[.string ⟨#[97]⟩, .slice A 2 c], rfl, k28_mk W ⟨⟨#[97]⟩, exF⟩ hc hf, fun i u hu => ?_⟩
  have e : j * k28.sz + i = 2 * j + i := by show j * 2 + i = _; omega
  rw [e, add_two]
  rcases i with _ | _ | i
  · cases hu; exact h0
  · cases hu; exact h1
  · simp at hu
def marshallinglaw03_examples.f : Option Bool := some true
set_option maxHeartbeats 4000000 in
set_option maxRecDepth 100000 in
theorem marshallinglaw03_examples.calls (r : Bool) (w : World) (hG : Glob w) (h : marshallinglaw03_examples.f = some r) :
    Calls Tryd.prog 9 #[] w fun e w' => e = .returned (.bool r) ∧ Below w.heap.size w w' := by
  obtain rfl := Option.some.inj h
  clear h
  have hu_1 := Tryd.underlying28
  have hu_2 := Tryd.underlying60
  have HG := Aside0.mk hG
  clear hG
  go_enter Tryd.func9, Tryd.ntmps9
  go_wp2_with fail
  refine (stream_Get.calls 30 _ _ _ _ _ HG.out ex1).mono ?_
  rintro e w1 ⟨v1, rfl, hR, hb1⟩
  obtain ⟨A1, c1, rfl, hc1, hC⟩ := Kd.R_reads hR
  have hl : exF.length = 2 := rfl
  rw [hl] at hc1 hC ⊢
  clear hl
  have HC := Aside0.mk hC
  have HB1 := Aside0.mk hb1
  clear hR hC hb1
  go_wp2_with fail
  refine (stream_Get.calls 30 _ _ _ _ _ (Glob.below HG.out (by first | exact below_alloc HB1.out _)) ex2).mono ?_
  rintro e w2 ⟨v2, rfl, hR, hb2⟩
  have hs1 : w2.cell? ⟨w1.heap.size, 1, none⟩ = some (.slice A1 2 c1) := pw_cell_below hb2 (by simp)
  have hs0 : w2.cell? ⟨w1.heap.size, 0, none⟩ = some (.string ⟨#[97]⟩) := pw_cell_below hb2 (by simp)
  obtain ⟨A3, c3, rfl, hc3, hC3⟩ := Kd.R_reads hR
  clear hC3 hc3 hR
  have hB2 : Below w1.heap.size w1 w2 := (below_alloc (Below.refl _ w1) (.cells #[.string ⟨#[97]⟩, .slice A1 2 c1] 28)).trans (hb2.mono (by simp))
  have HC2 := Aside0.mk (Kd.C_below HC.out hB2)
  have HB2 := Aside0.mk (HB1.out.trans (hB2.mono HB1.out.size))
  clear hb2 hB2
  obtain ⟨ad, rfl, hf0, hf1⟩ := at_T60 HC2.out 1 (by omega) (by omega)
  have hg0 : w2.cell? ⟨ad.block, ad.off + 2, none⟩ = some (.string ⟨#[121]⟩) := hf0
  have hg1 : w2.cell? ⟨ad.block, ad.off + 2 + 1, none⟩ = some (.int .i64 3) := hf1
  clear hf0 hf1
  have s11 := fun o => Lib.cell?_alloc_some (W := w2) o hs1
  have s13 := fun o p q => Lib.cell?_alloc_some q (Lib.cell?_alloc_some p (Lib.cell?_alloc_some (W := w2) o hs1))
  have s03 := fun o p q => Lib.cell?_alloc_some q (Lib.cell?_alloc_some p (Lib.cell?_alloc_some (W := w2) o hs0))
  have g03 := fun o p q => Lib.cell?_alloc_some q (Lib.cell?_alloc_some p (Lib.cell?_alloc_some (W := w2) o hg0))
  have g13 := fun o p q => Lib.cell?_alloc_some q (Lib.cell?_alloc_some p (Lib.cell?_alloc_some (W := w2) o hg1))
  go_wp2_with fail
  have HS : Aside0 (ExSt (some ad) c1 (some ⟨w2.heap.size + 1, 0, none⟩) 2 w1.heap.size (w2.heap.size + 1 + 1) w (((w2.alloc (.cells #[.string ⟨#[]⟩, .slice A3 0 c3] 28)).alloc (.cells #[.string ⟨#[120]⟩, .int .i64 1, .string ⟨#[120]⟩, .int .i64 2] 60)).alloc (.cells #[.string ⟨#[97]⟩, .slice (some ⟨w2.heap.size + 1, 0, none⟩) 2 2] 28))) := by
    have hb := below_alloc (below_alloc (below_alloc (Below.refl _ w2) (.cells #[.string ⟨#[]⟩, .slice A3 0 c3] 28)) (.cells #[.string ⟨#[120]⟩, .int .i64 1, .string ⟨#[120]⟩, .int .i64 2] 60)) (.cells #[.string ⟨#[97]⟩, .slice (some ⟨w2.heap.size + 1, 0, none⟩) 2 2] 28)
    have hB := HB2.out.trans (hb.mono HB2.out.size)
    have hbl : ∀ (W : World) (o : Obj) (c : Array Value) (t : TypeId) (i : Nat), o = .cells c t → (W.alloc o).cell? ⟨W.heap.size, i, none⟩ = c[i]? := fun W o c t i e => by subst e; exact cell_of_row _ _ _ _ _ _ (heap_alloc_new W _)
    refine ⟨⟨hB, Glob.below HG.out hB, pw_cell_below hb hs0, pw_cell_below hb hs1, ?_, ?_, Kd.C_below HC2.out hb, ?_⟩⟩
    · have h := hbl ((w2.alloc (.cells #[.string ⟨#[]⟩, .slice A3 0 c3] 28)).alloc (.cells #[.string ⟨#[120]⟩, .int .i64 1, .string ⟨#[120]⟩, .int .i64 2] 60)) _ #[.string ⟨#[97]⟩, .slice (some ⟨w2.heap.size + 1, 0, none⟩) 2 2] 28 0 rfl
      simpa using h
    · have h := hbl ((w2.alloc (.cells #[.string ⟨#[]⟩, .slice A3 0 c3] 28)).alloc (.cells #[.string ⟨#[120]⟩, .int .i64 1, .string ⟨#[120]⟩, .int .i64 2] 60)) _ #[.string ⟨#[97]⟩, .slice (some ⟨w2.heap.size + 1, 0, none⟩) 2 2] 28 1 rfl
      simpa using h
    · refine Kd.C_alloc ?_ _
      have h := fun i => hbl (w2.alloc (.cells #[.string ⟨#[]⟩, .slice A3 0 c3] 28)) _ #[.string ⟨#[120]⟩, .int .i64 1, .string ⟨#[120]⟩, .int .i64 2] 60 i rfl
      have hz : (w2.alloc (.cells #[.string ⟨#[]⟩, .slice A3 0 c3] 28)).heap.size = w2.heap.size + 1 := by simp
      rw [hz] at h
      exact two_fields h
  clear hs0 hs1 hg0 hg1 s11 s13 s03 g03 g13 HB1 HB2 HC HC2 HG
  refine (stream_Put.calls 30 _ (some ad) c1 exF _ _ HS.out.fs hc1 ex3).mono ?_
  rintro e w4 ⟨rfl, hb⟩
  have HS := Aside0.mk (ExSt.step HS.out hb)
  clear hb
  have z0 := HS.out.s0; have z1 := HS.out.s1; have z2 := HS.out.t0; have z3 := HS.out.t1
  go_wp2_with fail
  refine (stream_Right.calls 30 _ (some ad) c1 exF _ _ HS.out.fs hc1 HS.out.glob ex4).mono ?_
  rintro e w4 ⟨rfl, hb⟩
  have HS := Aside0.mk (ExSt.step HS.out hb)
  clear hb
  have z0 := HS.out.s0; have z1 := HS.out.s1; have z2 := HS.out.t0; have z3 := HS.out.t1
  go_wp2_with fail
  refine (stream_Right.calls 30 _ _ 2 exG _ _ HS.out.ts (Nat.le_refl _) HS.out.glob ex5).mono ?_
  rintro e w4 ⟨rfl, hb⟩
  have HS := Aside0.mk (ExSt.step HS.out hb)
  clear hb
  have z0 := HS.out.s0; have z1 := HS.out.s1; have z2 := HS.out.t0; have z3 := HS.out.t1
  go_wp2_with fail
  have HS2 := Aside0.mk (ExSt.step HS.out (below_alloc (Below.refl _ _) (.cells #[.string ⟨#[97]⟩, .slice (some ad) 2 c1, .string ⟨#[97]⟩, .slice (some ad) 2 c1] 28)))
  have HL := Aside0.mk (streams_of 2 (by omega) hc1 HS2.out.fs (fun j hj => by
    have hbl := fun i => cell_of_row (w4.alloc (.cells #[.string ⟨#[97]⟩, .slice (some ad) 2 c1, .string ⟨#[97]⟩, .slice (some ad) 2 c1] 28)) _ i _ _ _ (heap_alloc_new w4 (.cells #[.string ⟨#[97]⟩, .slice (some ad) 2 c1, .string ⟨#[97]⟩, .slice (some ad) 2 c1] 28))
    rw [hbl, hbl]
    rcases j with _ | _ | j
    · exact ⟨rfl, rfl⟩
    · first | exact ⟨rfl, rfl⟩ | omega
    · omega))
  clear HS
  have HS := HS2
  clear HS2
  refine (stream_All.calls 30 _ 2 [⟨⟨#[97]⟩, exF⟩, ⟨⟨#[97]⟩, exF⟩] _ _ HL.out (Nat.le_refl _) HS.out.glob ex6).mono ?_
  clear HL
  rintro e w5 ⟨rfl, hb⟩
  have HS' := Aside0.mk (ExSt.step HS.out hb)
  clear hb HS
  obtain ⟨w4, rfl⟩ : ∃ w4 : World, w4 = w5 := ⟨_, rfl⟩
  have HS := HS'
  clear HS'
  have z0 := HS.out.s0; have z1 := HS.out.s1; have z2 := HS.out.t0; have z3 := HS.out.t1
  go_wp2_with fail
  refine (stream_At.calls _ (some ad) c1 exF _ _ _ HS.out.fs hc1 ex7).mono ?_
  rintro e w5 ⟨rfl, hb⟩
  have HS' := Aside0.mk (ExSt.step HS.out hb)
  clear hb HS
  obtain ⟨w4, rfl⟩ : ∃ w4 : World, w4 = w5 := ⟨_, rfl⟩
  have HS := HS'
  clear HS'
  have z0 := HS.out.s0; have z1 := HS.out.s1; have z2 := HS.out.t0; have z3 := HS.out.t1
  go_wp2_with fail
  refine (stream_At.calls _ (some ad) c1 exF _ _ _ HS.out.fs hc1 ex8).mono ?_
  rintro e w5 ⟨rfl, hb⟩
  have HS' := Aside0.mk (ExSt.step HS.out hb)
  clear hb HS
  obtain ⟨w4, rfl⟩ : ∃ w4 : World, w4 = w5 := ⟨_, rfl⟩
  have HS := HS'
  clear HS'
  have z0 := HS.out.s0; have z1 := HS.out.s1; have z2 := HS.out.t0; have z3 := HS.out.t1
  go_wp2_with fail
  have HS2 := Aside0.mk (ExSt.step HS.out (below_alloc (Below.refl _ _) (.cells #[.string ⟨#[97]⟩, .slice (some ad) 2 c1] 28)))
  have HL := Aside0.mk (streams_of 1 (by omega) hc1 HS2.out.fs (fun j hj => by
    have hbl := fun i => cell_of_row (w4.alloc (.cells #[.string ⟨#[97]⟩, .slice (some ad) 2 c1] 28)) _ i _ _ _ (heap_alloc_new w4 (.cells #[.string ⟨#[97]⟩, .slice (some ad) 2 c1] 28))
    rw [hbl, hbl]
    rcases j with _ | _ | j
    · exact ⟨rfl, rfl⟩
    · first | exact ⟨rfl, rfl⟩ | omega
    · omega))
  clear HS
  have HS := HS2
  clear HS2
  refine (stream_Find.calls _ 1 [⟨⟨#[97]⟩, exF⟩] _ _ _ HL.out (Nat.le_refl _) ex9).mono ?_
  clear HL
  rintro e w5 ⟨rfl, hb⟩
  have HS' := Aside0.mk (ExSt.step HS.out hb)
  clear hb HS
  obtain ⟨w4, rfl⟩ : ∃ w4 : World, w4 = w5 := ⟨_, rfl⟩
  have HS := HS'
  clear HS'
  have z0 := HS.out.s0; have z1 := HS.out.s1; have z2 := HS.out.t0; have z3 := HS.out.t1
  go_wp2_with fail
  refine (stream_Same.calls 30 _ (some ad) c1 exF _ (some ad) c1 exF _ _ HS.out.fs hc1 HS.out.fs hc1 ex10).mono ?_
  rintro e w5 ⟨rfl, hb⟩
  have HS' := Aside0.mk (ExSt.step HS.out hb)
  clear hb HS
  obtain ⟨w4, rfl⟩ : ∃ w4 : World, w4 = w5 := ⟨_, rfl⟩
  have HS := HS'
  clear HS'
  have z0 := HS.out.s0; have z1 := HS.out.s1; have z2 := HS.out.t0; have z3 := HS.out.t1
  go_wp2_with fail
  refine (stream_IsName.calls 30 _ _ _ HS.out.glob ex11).mono ?_
  rintro e w5 ⟨rfl, hb⟩
  have HS' := Aside0.mk (ExSt.step HS.out hb)
  clear hb HS
  obtain ⟨w4, rfl⟩ : ∃ w4 : World, w4 = w5 := ⟨_, rfl⟩
  have HS := HS'
  clear HS'
  have z0 := HS.out.s0; have z1 := HS.out.s1; have z2 := HS.out.t0; have z3 := HS.out.t1
  go_wp2_with fail
  refine (stream_IsName.calls 30 _ _ _ HS.out.glob ex12).mono ?_
  rintro e w5 ⟨rfl, hb⟩
  have HS' := Aside0.mk (ExSt.step HS.out hb)
  clear hb HS
  obtain ⟨w4, rfl⟩ : ∃ w4 : World, w4 = w5 := ⟨_, rfl⟩
  have HS := HS'
  clear HS'
  have z0 := HS.out.s0; have z1 := HS.out.s1; have z2 := HS.out.t0; have z3 := HS.out.t1
  go_wp2_with fail
  refine (stream_IsName.calls 30 _ _ _ HS.out.glob ex13).mono ?_
  rintro e w5 ⟨rfl, hb⟩
  have HS' := Aside0.mk (ExSt.step HS.out hb)
  clear hb HS
  obtain ⟨w4, rfl⟩ : ∃ w4 : World, w4 = w5 := ⟨_, rfl⟩
  have HS := HS'
  clear HS'
  have z0 := HS.out.s0; have z1 := HS.out.s1; have z2 := HS.out.t0; have z3 := HS.out.t1
  go_wp2_with fail
  refine (stream_IsName.calls 30 _ _ _ HS.out.glob ex14).mono ?_
  rintro e w5 ⟨rfl, hb⟩
  have HS' := Aside0.mk (ExSt.step HS.out hb)
  clear hb HS
  obtain ⟨w4, rfl⟩ : ∃ w4 : World, w4 = w5 := ⟨_, rfl⟩
  have HS := HS'
  clear HS'
  have z0 := HS.out.s0; have z1 := HS.out.s1; have z2 := HS.out.t0; have z3 := HS.out.t1
  go_wp2_with fail
  go_ret
  exact ⟨rfl, HS.out.below⟩

end Go.Proofs.YtcfdnicnjhilkaaDoor.J
