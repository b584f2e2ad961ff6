-- Written by this session's program mprint.py over the kit's printer (with hand-written contracts laid in). Not trusted: Lean checks it.
import Derived.Test.YtcfdnicnjhilkaaDoorG0
import Derived.Test.YtcfdnicnjhilkaaDoorG5
import Derived.Test.YtcfdnicnjhilkaaDoorG11
namespace Go.Proofs.YtcfdnicnjhilkaaDoor.G
open Go.RowKit Go.Proofs.YtcfdnicnjhilkaaDoorW.PrintWords Go.Proofs.YtcfdnicnjhilkaaDoorW.PrintLast Go.Proofs.YtcfdnicnjhilkaaDoorW.PrintMore
attribute [local go_sem] max2_int min2_int max_two min_two max_three min_three max_four min_four   -- for this text's walks alone
set_option linter.unusedVariables false
set_option linter.unusedSimpArgs false


/-! A text with one byte turned -/
def setB (s : ByteArray) (j : Nat) (b : Int) : ByteArray := ⟨(s.data.toList.set j (UInt8.ofNat b.toNat)).toArray⟩
def mayN (b : Int) (j : Nat) : Bool := decide ((97 ≤ b ∧ b ≤ 122) ∨ (65 ≤ b ∧ b ≤ 90) ∨ b = 95 ∨ (0 < j ∧ 48 ≤ b ∧ b ≤ 57))
def keyN (t : List UInt8) : Bool := (t == ([66, 89] : List UInt8)) || (t == ([69, 77, 73, 84] : List UInt8)) || (t == ([116, 114, 117, 101] : List UInt8)) || (t == ([102, 97, 108, 115, 101] : List UInt8)) || (t == ([83, 84, 82, 73, 67, 84] : List UInt8)) || (t == ([87, 73, 84, 72, 73, 78] : List UInt8))
def placeN (s : ByteArray) (p : Int) : Nat := (p % (s.size : Int)).toNat
def namesOk (s : ByteArray) (p b : Int) (q1 q2 q3 q4 : Bool) : Bool :=
  decide (0 < s.size ∧ s.size ≤ 1000 ∧ s.data.toList.head? = some 113 ∧ 0 ≤ p ∧ p ≤ 255 ∧ 0 ≤ b ∧ b ≤ 255 ∧ q1 = true ∧ q2 = false ∧ q3 = (mayN b (placeN s p) && !keyN (setB s (placeN s p) b).data.toList) ∧ q4 = false)
theorem setB_key {s : ByteArray} {j : Nat} {b : Int} (c : UInt8) (r : List UInt8) (hs : s.data.toList.head? = some 113) (hb : 0 ≤ b ∧ b ≤ 255) (hc : c ≠ 113) (h : (setB s j b).data.toList = c :: r) : j = 0 ∧ b = c.toNat := by
  have h1 : s.data.toList.set j (UInt8.ofNat b.toNat) = c :: r := h
  cases e : s.data.toList with
  | nil => rw [e] at hs; cases hs
  | cons x t =>
    rw [e] at hs h1
    cases hs
    cases j with
    | zero =>
      rw [List.set_cons_zero] at h1
      injection h1 with h2 _
      refine ⟨rfl, ?_⟩
      rw [← h2]
      have : (UInt8.ofNat b.toNat).toNat = b.toNat := by rw [UInt8.toNat_ofNat']; omega
      rw [this]; omega
    | succ j =>
      rw [List.set_cons_succ] at h1
      injection h1 with h2 _
      exact absurd h2.symm hc
theorem keys7 (L : List UInt8) : ((L == ([66, 89] : List UInt8)) = true) ∨ ((L == ([66, 89] : List UInt8)) = false ∧ (L == ([69, 77, 73, 84] : List UInt8)) = true) ∨ ((L == ([66, 89] : List UInt8)) = false ∧ (L == ([69, 77, 73, 84] : List UInt8)) = false ∧ (L == ([116, 114, 117, 101] : List UInt8)) = true) ∨ ((L == ([66, 89] : List UInt8)) = false ∧ (L == ([69, 77, 73, 84] : List UInt8)) = false ∧ (L == ([116, 114, 117, 101] : List UInt8)) = false ∧ (L == ([102, 97, 108, 115, 101] : List UInt8)) = true) ∨ ((L == ([66, 89] : List UInt8)) = false ∧ (L == ([69, 77, 73, 84] : List UInt8)) = false ∧ (L == ([116, 114, 117, 101] : List UInt8)) = false ∧ (L == ([102, 97, 108, 115, 101] : List UInt8)) = false ∧ (L == ([83, 84, 82, 73, 67, 84] : List UInt8)) = true) ∨ ((L == ([66, 89] : List UInt8)) = false ∧ (L == ([69, 77, 73, 84] : List UInt8)) = false ∧ (L == ([116, 114, 117, 101] : List UInt8)) = false ∧ (L == ([102, 97, 108, 115, 101] : List UInt8)) = false ∧ (L == ([83, 84, 82, 73, 67, 84] : List UInt8)) = false ∧ (L == ([87, 73, 84, 72, 73, 78] : List UInt8)) = true) ∨ ((L == ([66, 89] : List UInt8)) = false ∧ (L == ([69, 77, 73, 84] : List UInt8)) = false ∧ (L == ([116, 114, 117, 101] : List UInt8)) = false ∧ (L == ([102, 97, 108, 115, 101] : List UInt8)) = false ∧ (L == ([83, 84, 82, 73, 67, 84] : List UInt8)) = false ∧ (L == ([87, 73, 84, 72, 73, 78] : List UInt8)) = false) := by
  cases (L == ([66, 89] : List UInt8)) <;> cases (L == ([69, 77, 73, 84] : List UInt8)) <;> cases (L == ([116, 114, 117, 101] : List UInt8)) <;> cases (L == ([102, 97, 108, 115, 101] : List UInt8)) <;> cases (L == ([83, 84, 82, 73, 67, 84] : List UInt8)) <;> cases (L == ([87, 73, 84, 72, 73, 78] : List UInt8)) <;> simp
theorem frozen_bytes (W : World) (e : TypeId) (s : ByteArray) (j : Nat) (hj : j < s.size) : (Lib.bytesWorld W e s).frozen? ⟨W.heap.size, j, none⟩ = false := by
  have h := Lib.bytesWorld_at_new W e s
  have hs : s.size ≤ (Lib.bytesCells W e s).size := by unfold Lib.bytesCells; rw [Array.size_append, Array.size_map]; exact Nat.le_add_right _ _
  unfold World.frozen?
  simp only [h]
  rw [Bool.and_eq_false_iff]
  left
  rw [decide_eq_false_iff_not]
  omega
theorem turnedN (s : ByteArray) (j : Nat) (hj : j < s.size) (hs : s.size ≤ 1000) (b : Int) (hb : 0 ≤ b ∧ b ≤ 255) (B : Nat) (w W : World) (HB : Below B w W) (hB : B ≤ W.heap.size) :
    ∃ cap W1, ((convert 9 23 (.string s)).run Tryd.prog W = .ok (.slice (some ⟨W.heap.size, 0, none⟩) s.size cap) W1) ∧ (∃ u, W1.cell? ⟨W.heap.size, j, none⟩ = some u) ∧ (W1.frozen? ⟨W.heap.size, j, none⟩ = false) ∧ ((convert 23 9 (.slice (some ⟨W.heap.size, 0, none⟩) s.size cap)).run Tryd.prog (W1.setCell ⟨W.heap.size, j, none⟩ (.int .u8 b)) = .ok (.string (setB s j b)) (W1.setCell ⟨W.heap.size, j, none⟩ (.int .u8 b))) ∧ Below B w (W1.setCell ⟨W.heap.size, j, none⟩ (.int .u8 b)) := by
  refine ⟨_, _, print_bytes 9 23 5 Tryd.underlying9 Tryd.underlying23 Tryd.underlying5 s W, ⟨_, Lib.bytesWorld_cell W 5 s j hj⟩, frozen_bytes W 5 s j hj, ?_, (bytes_below HB hB 5 s).setCell hB _⟩
  have hsl : s.data.toList.length = s.size := by rw [Array.length_toList]; rfl
  have e : setB s j b = strOfNums ((bytesOf s).set j b) := by
    unfold setB strOfNums bytesOf
    congr 2
    rw [List.map_set, List.map_map]
    congr 1
    conv => lhs; rw [← List.map_id s.data.toList]
    apply List.map_congr_left
    intro c _
    simp
  rw [e]
  refine run_convert_bytes_arg _ 23 5 Tryd.underlying23 Tryd.underlying5 W.heap.size 0 s.size _ ((bytesOf s).set j b) (by simp [bytesOf, hsl]) (fun i hi => ?_) 9 Tryd.underlying9
  rw [Nat.zero_add]
  by_cases hij : i = j
  · subst hij
    rw [World.cell?_setCell_same _ _ _ (Lib.bytesWorld_cell W 5 s i hj)]
    simp [bytesOf, List.getD_eq_getElem?_getD, List.getElem?_set, hsl, hi]
  · rw [World.cell?_setCell_other _ _ _ _ (by simp only [ne_eq, Addr.mk.injEq]; omega), Lib.bytesWorld_cell W 5 s i hi]
    have : i < s.data.toList.length := by omega
    rw [List.getD_eq_getElem?_getD, List.getD_eq_getElem?_getD, List.getElem?_set_ne (Ne.symm hij)]
    unfold bytesOf
    rw [List.getElem?_map, List.getElem?_eq_getElem this]
    rfl
/-! ### marshallinglaw03_StreamNames: function 4 -/
mutual
def marshallinglaw03_StreamNames.j1 : Nat → Int → Int → ByteArray → Option (Bool)
  | 0, _, _, _ => none
  | k + 1, x1, x2, x9 => marshallinglaw03_StreamNames.l1 k x1 x2 x9 x9
def marshallinglaw03_StreamNames.l1 : Nat → Int → Int → ByteArray → ByteArray → Option (Bool)
  | 0, _, _, _, _ => none
  | k + 1, x1, x2, x9, x11 => if (x11.size : Int) < 21 then (if x11.size + 1 ≤ 9223372036854775807 then (marshallinglaw03_StreamNames.l1 k x1 x2 x9 (x11 ++ (⟨#[122]⟩ : ByteArray))) else (none)) else ((stream_IsName.f k x9).bind fun q1 => (stream_IsName.f k x11).bind fun q2 => (stream_IsName.f k (setB x9 (placeN x9 x1) x2)).bind fun q3 => (stream_IsName.f k ((⟨#[53]⟩ : ByteArray) ++ x9)).bind fun q4 => (if namesOk x9 x1 x2 q1 q2 q3 q4 = true then (some true) else (none)))
def marshallinglaw03_StreamNames.l0 : Nat → List Int → Int → Int → ByteArray → ByteArray → Int → Option (Bool)
  | 0, _, _, _, _, _, _ => none
  | k + 1, x0, x1, x2, x8, x9, x10 => if x10 < (x0.length : Int) then (if x10 < 19 then (if 0 ≤ x10 then (if 0 ≤ (Int.tmod (wrap64 (rd x0 x10)) 63) then (if (Int.tmod (wrap64 (rd x0 x10)) 63) ≤ (wrap64 ((Int.tmod (wrap64 (rd x0 x10)) 63) + 1)) then (if (wrap64 ((Int.tmod (wrap64 (rd x0 x10)) 63) + 1)) ≤ (x8.size : Int) then (if x9.size + (x8.extract ((Int.tmod (wrap64 (rd x0 x10)) 63) : Int).toNat ((wrap64 ((Int.tmod (wrap64 (rd x0 x10)) 63) + 1)) : Int).toNat).size ≤ 9223372036854775807 then (marshallinglaw03_StreamNames.l0 k x0 x1 x2 x8 (x9 ++ (x8.extract ((Int.tmod (wrap64 (rd x0 x10)) 63) : Int).toNat ((wrap64 ((Int.tmod (wrap64 (rd x0 x10)) 63) + 1)) : Int).toNat)) (wrap64 (x10 + 1))) else (none)) else (none)) else (none)) else (none)) else (none)) else (marshallinglaw03_StreamNames.j1 k x1 x2 x9)) else (marshallinglaw03_StreamNames.j1 k x1 x2 x9)
end
def marshallinglaw03_StreamNames.f (k : Nat) (l0 : List Int) (a1 : Int) (a2 : Int) : Option (Bool) := (marshallinglaw03_examples.f).bind fun t146 => (if t146 = true then (marshallinglaw03_StreamNames.l0 k l0 a1 a2 (⟨#[97, 98, 99, 100, 101, 102, 103, 104, 105, 106, 107, 108, 109, 110, 111, 112, 113, 114, 115, 116, 117, 118, 119, 120, 121, 122, 65, 66, 67, 68, 69, 70, 71, 72, 73, 74, 75, 76, 77, 78, 79, 80, 81, 82, 83, 84, 85, 86, 87, 88, 89, 90, 95, 48, 49, 50, 51, 52, 53, 54, 55, 56, 57]⟩ : ByteArray) (⟨#[113]⟩ : ByteArray) 0) else (some false))
theorem marshallinglaw03_StreamNames.mono_l : ∀ k, (∀ y0 y1 y2, LeO (marshallinglaw03_StreamNames.j1 k y0 y1 y2) (marshallinglaw03_StreamNames.j1 (k + 1) y0 y1 y2)) ∧ (∀ y0 y1 y2 y3, LeO (marshallinglaw03_StreamNames.l1 k y0 y1 y2 y3) (marshallinglaw03_StreamNames.l1 (k + 1) y0 y1 y2 y3)) ∧ (∀ y0 y1 y2 y3 y4 y5, LeO (marshallinglaw03_StreamNames.l0 k y0 y1 y2 y3 y4 y5) (marshallinglaw03_StreamNames.l0 (k + 1) y0 y1 y2 y3 y4 y5))
  | 0 => ⟨fun _ _ _ r h => by simp [marshallinglaw03_StreamNames.j1] at h, fun _ _ _ _ r h => by simp [marshallinglaw03_StreamNames.l1] at h, fun _ _ _ _ _ _ r h => by simp [marshallinglaw03_StreamNames.l0] at h⟩
  | k + 1 => by
    obtain ⟨ih0, ih1, ih2⟩ := marshallinglaw03_StreamNames.mono_l k
    refine ⟨?_, ?_, ?_⟩
    · intro y0 y1 y2
      unfold marshallinglaw03_StreamNames.j1
      repeat' first
      | (with_reducible exact ih0 _ _ _)
      | (with_reducible exact ih1 _ _ _ _)
      | (with_reducible exact ih2 _ _ _ _ _ _)
      | (with_reducible exact stream_IsName.mono _ _)
      | (with_reducible exact LeO.refl _)
      | (with_reducible exact LeO.none _)
      | (with_reducible refine LeO.ite ?_ ?_)
      | (with_reducible refine LeO.bind ?_ (fun _ => ?_))
      | exact ih0 _ _ _
      | exact ih1 _ _ _ _
      | exact ih2 _ _ _ _ _ _
      | exact stream_IsName.mono _ _
      | exact LeO.none _
      | refine LeO.ite ?_ ?_
      | refine LeO.bind ?_ (fun _ => ?_)
    · intro y0 y1 y2 y3
      unfold marshallinglaw03_StreamNames.l1
      repeat' first
      | (with_reducible exact ih0 _ _ _)
      | (with_reducible exact ih1 _ _ _ _)
      | (with_reducible exact ih2 _ _ _ _ _ _)
      | (with_reducible exact stream_IsName.mono _ _)
      | (with_reducible exact LeO.refl _)
      | (with_reducible exact LeO.none _)
      | (with_reducible refine LeO.ite ?_ ?_)
      | (with_reducible refine LeO.bind ?_ (fun _ => ?_))
      | exact ih0 _ _ _
      | exact ih1 _ _ _ _
      | exact ih2 _ _ _ _ _ _
      | exact stream_IsName.mono _ _
      | exact LeO.none _
      | refine LeO.ite ?_ ?_
      | refine LeO.bind ?_ (fun _ => ?_)
    · intro y0 y1 y2 y3 y4 y5
      unfold marshallinglaw03_StreamNames.l0
      repeat' first
      | (with_reducible exact ih0 _ _ _)
      | (with_reducible exact ih1 _ _ _ _)
      | (with_reducible exact ih2 _ _ _ _ _ _)
      | (with_reducible exact stream_IsName.mono _ _)
      | (with_reducible exact LeO.refl _)
      | (with_reducible exact LeO.none _)
      | (with_reducible refine LeO.ite ?_ ?_)
      | (with_reducible refine LeO.bind ?_ (fun _ => ?_))
      | exact ih0 _ _ _
      | exact ih1 _ _ _ _
      | exact ih2 _ _ _ _ _ _
      | exact stream_IsName.mono _ _
      | exact LeO.none _
      | refine LeO.ite ?_ ?_
      | refine LeO.bind ?_ (fun _ => ?_)
theorem marshallinglaw03_StreamNames.mono : ∀ a0 a1 a2 k, LeO (marshallinglaw03_StreamNames.f k a0 a1 a2) (marshallinglaw03_StreamNames.f (k + 1) a0 a1 a2) := by
  intro a0 a1 a2 k
  obtain ⟨ih0, ih1, ih2⟩ := marshallinglaw03_StreamNames.mono_l k
  unfold marshallinglaw03_StreamNames.f
  repeat' first
      | (with_reducible exact ih0 _ _ _)
      | (with_reducible exact ih1 _ _ _ _)
      | (with_reducible exact ih2 _ _ _ _ _ _)
      | (with_reducible exact stream_IsName.mono _ _)
      | (with_reducible exact LeO.refl _)
      | (with_reducible exact LeO.none _)
      | (with_reducible refine LeO.ite ?_ ?_)
      | (with_reducible refine LeO.bind ?_ (fun _ => ?_))
      | exact ih0 _ _ _
      | exact ih1 _ _ _ _
      | exact ih2 _ _ _ _ _ _
      | exact stream_IsName.mono _ _
      | exact LeO.none _
      | refine LeO.ite ?_ ?_
      | refine LeO.bind ?_ (fun _ => ?_)
set_option maxHeartbeats 8000000 in
set_option maxRecDepth 100000 in
theorem marshallinglaw03_StreamNames.calls (k : Nat) (A0 : Option Addr) (c0 : Nat) (l0 : List Int) (a1 : Int) (a2 : Int) (r : Bool) (w : World) (hr0 : Kd.C (Kd.int .u8) w A0 l0.length l0) (hc0 : l0.length ≤ c0) (hG : Glob w) (h : marshallinglaw03_StreamNames.f k l0 a1 a2 = some r) :
    Calls Tryd.prog 4 #[.slice A0 l0.length c0, .int .u8 a1, .int .u8 a2] w fun e w' => e = .returned (.bool r) ∧ Below w.heap.size w w' := by
  have HG := Aside0.mk hG
  clear hG
  have HR0 := Aside0.mk hr0
  have HC0 := Aside0.mk hc0
  clear hr0 hc0
  have HB := Aside0.mk (Below.refl w.heap.size w)
  have H : ((marshallinglaw03_examples.f).bind fun t146 => (if t146 = true then (marshallinglaw03_StreamNames.l0 k l0 a1 a2 (⟨#[97, 98, 99, 100, 101, 102, 103, 104, 105, 106, 107, 108, 109, 110, 111, 112, 113, 114, 115, 116, 117, 118, 119, 120, 121, 122, 65, 66, 67, 68, 69, 70, 71, 72, 73, 74, 75, 76, 77, 78, 79, 80, 81, 82, 83, 84, 85, 86, 87, 88, 89, 90, 95, 48, 49, 50, 51, 52, 53, 54, 55, 56, 57]⟩ : ByteArray) (⟨#[113]⟩ : ByteArray) 0) else (some false))) = some r := h
  clear h
  replace H := Option.bind_eq_some_iff.mp H
  obtain ⟨t146, A40, H⟩ := H
  replace H : (if t146 = true then (marshallinglaw03_StreamNames.l0 k l0 a1 a2 (⟨#[97, 98, 99, 100, 101, 102, 103, 104, 105, 106, 107, 108, 109, 110, 111, 112, 113, 114, 115, 116, 117, 118, 119, 120, 121, 122, 65, 66, 67, 68, 69, 70, 71, 72, 73, 74, 75, 76, 77, 78, 79, 80, 81, 82, 83, 84, 85, 86, 87, 88, 89, 90, 95, 48, 49, 50, 51, 52, 53, 54, 55, 56, 57]⟩ : ByteArray) (⟨#[113]⟩ : ByteArray) 0) else (some false)) = some r := H
  have A4 := Aside0.mk A40
  clear A40
  by_cases c5 : t146 = true
  · subst c5
    have H1 : (marshallinglaw03_StreamNames.l0 k l0 a1 a2 (⟨#[97, 98, 99, 100, 101, 102, 103, 104, 105, 106, 107, 108, 109, 110, 111, 112, 113, 114, 115, 116, 117, 118, 119, 120, 121, 122, 65, 66, 67, 68, 69, 70, 71, 72, 73, 74, 75, 76, 77, 78, 79, 80, 81, 82, 83, 84, 85, 86, 87, 88, 89, 90, 95, 48, 49, 50, 51, 52, 53, 54, 55, 56, 57]⟩ : ByteArray) (⟨#[113]⟩ : ByteArray) 0) = some r := by rw [if_pos rfl] at H; exact H
    clear H
    have H := H1
    clear H1
    have HC6 := Aside0.mk H
    clear H
    go_enter Tryd.func4, Tryd.ntmps4
    go_upto_block 0 with (first | (go_at_call 9; (with_reducible refine (marshallinglaw03_examples.calls  true _ ?side1 A4.out).mono ?_); (case side1 => exact Glob.below HG.out (by repeat (first | (with_reducible first | exact HB.out | apply below_alloc | apply pw_below_drewN | apply below_drew1) | exact HB.out))); rintro e w7 ⟨rfl, hb⟩; have n0_ := Aside0.mk (below_step (by repeat (first | (with_reducible first | exact HB.out | apply below_alloc | apply pw_below_drewN | apply below_drew1) | exact HB.out)) hb); clear HB; have HB := n0_; clear n0_; (try clear hb); (try clear hb2); (try clear hk); (try clear hi)))
    repeat (go_quiet (first | (go_at_call 9; (with_reducible refine (marshallinglaw03_examples.calls  true _ ?side1 A4.out).mono ?_); (case side1 => exact Glob.below HG.out (by repeat (first | (with_reducible first | exact HB.out | apply below_alloc | apply pw_below_drewN | apply below_drew1) | exact HB.out))); rintro e w7 ⟨rfl, hb⟩; have n0_ := Aside0.mk (below_step (by repeat (first | (with_reducible first | exact HB.out | apply below_alloc | apply pw_below_drewN | apply below_drew1) | exact HB.out)) hb); clear HB; have HB := n0_; clear n0_; (try clear hb); (try clear hb2); (try clear hk); (try clear hi))); go_upto_block 0 with (first | (go_at_call 9; (with_reducible refine (marshallinglaw03_examples.calls  true _ ?side1 A4.out).mono ?_); (case side1 => exact Glob.below HG.out (by repeat (first | (with_reducible first | exact HB.out | apply below_alloc | apply pw_below_drewN | apply below_drew1) | exact HB.out))); rintro e w7 ⟨rfl, hb⟩; have n0_ := Aside0.mk (below_step (by repeat (first | (with_reducible first | exact HB.out | apply below_alloc | apply pw_below_drewN | apply below_drew1) | exact HB.out)) hb); clear HB; have HB := n0_; clear n0_; (try clear hb); (try clear hb2); (try clear hk); (try clear hi))))
    (try simp only [Act.put, List.setIfInBounds_toArray, List.set_cons_zero, List.set_cons_succ])
    go_cut [9] (fun v9 wc => ∃ (kq : Nat) (x9_5 : ByteArray), v9 = .string x9_5 ∧ Aside0 (marshallinglaw03_StreamNames.j1 kq a1 a2 x9_5 = some r) ∧ Aside0 (kq ≤ k) ∧ Aside0 (Below w.heap.size w wc))
    case first =>
      have H := HC6.out
      clear HC6
      have H' := Aside0.mk H
      clear H
      go_wp2
      repeat (go_quiet (fail); try go_wp2)
      go_loopg [9, 10] k (fun kq v9 v10 w' => ∃ (x9_1 : ByteArray) (x10_1 : Int), v9 = .string x9_1 ∧ v10 = .int .i64 x10_1 ∧ Aside0 (marshallinglaw03_StreamNames.l0 kq l0 a1 a2 (⟨#[97, 98, 99, 100, 101, 102, 103, 104, 105, 106, 107, 108, 109, 110, 111, 112, 113, 114, 115, 116, 117, 118, 119, 120, 121, 122, 65, 66, 67, 68, 69, 70, 71, 72, 73, 74, 75, 76, 77, 78, 79, 80, 81, 82, 83, 84, 85, 86, 87, 88, 89, 90, 95, 48, 49, 50, 51, 52, 53, 54, 55, 56, 57]⟩ : ByteArray) x9_1 x10_1 = some r) ∧ Aside0 (kq ≤ k) ∧ Aside0 (Below w.heap.size w w'))
      case atStart => exact ⟨((⟨#[113]⟩ : ByteArray)), (0), (by first | rfl | (simp; done) | (simp [*]; done)), (by first | rfl | (simp; done) | (simp [*]; done)), H', ⟨Nat.le_refl _⟩, ⟨by repeat (first | (with_reducible first | exact HB.out | apply below_alloc | apply pw_below_drewN | apply below_drew1) | exact HB.out)⟩⟩
      case round =>
        clear H'
        try clear p2
        try clear c4
        try clear c5
        obtain ⟨x9_1, x10_1, rfl, rfl, HA, HK1, HB⟩ := hrel
        cases gk with
        | zero => exact absurd HA.out (by simp [marshallinglaw03_StreamNames.l0])
        | succ k1 =>
          have H := HA.out
          clear HA
          simp only [marshallinglaw03_StreamNames.l0] at H
          by_cases c8 : x10_1 < (l0.length : Int)
          · rw [if_pos c8] at H
            have c8b0 : decide (x10_1 < (l0.length : Int)) = true := decide_eq_true c8
            clear c8
            (first | rw [c8b0] | (simp only [i64_w, i32_w]; rw [c8b0]) | skip)
            by_cases c9 : x10_1 < 19
            · rw [if_pos c9] at H
              have c9b0 : decide (x10_1 < 19) = true := decide_eq_true c9
              clear c9
              by_cases c10 : 0 ≤ x10_1
              · rw [if_pos c10] at H
                have c10b0 : decide (0 ≤ x10_1) = true := decide_eq_true c10
                clear c10
                obtain ⟨ji11, hji11⟩ : ∃ j_ : Int, (Int.tmod (wrap64 (rd l0 x10_1)) 63) = j_ := ⟨_, rfl⟩
                replace H : (if 0 ≤ (ji11) then (if (ji11) ≤ (wrap64 ((ji11) + 1)) then (if (wrap64 ((ji11) + 1)) ≤ ((⟨#[97, 98, 99, 100, 101, 102, 103, 104, 105, 106, 107, 108, 109, 110, 111, 112, 113, 114, 115, 116, 117, 118, 119, 120, 121, 122, 65, 66, 67, 68, 69, 70, 71, 72, 73, 74, 75, 76, 77, 78, 79, 80, 81, 82, 83, 84, 85, 86, 87, 88, 89, 90, 95, 48, 49, 50, 51, 52, 53, 54, 55, 56, 57]⟩ : ByteArray).size : Int) then (if x9_1.size + ((⟨#[97, 98, 99, 100, 101, 102, 103, 104, 105, 106, 107, 108, 109, 110, 111, 112, 113, 114, 115, 116, 117, 118, 119, 120, 121, 122, 65, 66, 67, 68, 69, 70, 71, 72, 73, 74, 75, 76, 77, 78, 79, 80, 81, 82, 83, 84, 85, 86, 87, 88, 89, 90, 95, 48, 49, 50, 51, 52, 53, 54, 55, 56, 57]⟩ : ByteArray).extract ((ji11) : Int).toNat ((wrap64 ((ji11) + 1)) : Int).toNat).size ≤ 9223372036854775807 then (marshallinglaw03_StreamNames.l0 k1 l0 a1 a2 (⟨#[97, 98, 99, 100, 101, 102, 103, 104, 105, 106, 107, 108, 109, 110, 111, 112, 113, 114, 115, 116, 117, 118, 119, 120, 121, 122, 65, 66, 67, 68, 69, 70, 71, 72, 73, 74, 75, 76, 77, 78, 79, 80, 81, 82, 83, 84, 85, 86, 87, 88, 89, 90, 95, 48, 49, 50, 51, 52, 53, 54, 55, 56, 57]⟩ : ByteArray) (x9_1 ++ ((⟨#[97, 98, 99, 100, 101, 102, 103, 104, 105, 106, 107, 108, 109, 110, 111, 112, 113, 114, 115, 116, 117, 118, 119, 120, 121, 122, 65, 66, 67, 68, 69, 70, 71, 72, 73, 74, 75, 76, 77, 78, 79, 80, 81, 82, 83, 84, 85, 86, 87, 88, 89, 90, 95, 48, 49, 50, 51, 52, 53, 54, 55, 56, 57]⟩ : ByteArray).extract ((ji11) : Int).toNat ((wrap64 ((ji11) + 1)) : Int).toNat)) (wrap64 (x10_1 + 1))) else (none)) else (none)) else (none)) else (none)) = some r := by first | (rw [hji11] at H; exact H) | (simp only [hji11] at H ⊢; exact H)
                have hji11v : (Int.tmod (IntKind.i64.wrap (rd l0 x10_1)) 63) = ji11 := by first | exact hji11 | (simp only [i64_w, i32_w]; exact hji11)
                by_cases c12 : 0 ≤ (ji11)
                · rw [if_pos c12] at H
                  have c12b0 := eq_true c12
                  have c12b1 : decide (0 ≤ (ji11)) = true := decide_eq_true c12
                  clear c12
                  by_cases c13 : (ji11) ≤ (wrap64 ((ji11) + 1))
                  · rw [if_pos c13] at H
                    have c13b0 := eq_true c13
                    have c13b1 : decide ((ji11) ≤ (wrap64 ((ji11) + 1))) = true := decide_eq_true c13
                    (try have c13v0 : ((ji11) ≤ (IntKind.i64.wrap ((ji11) + 1))) = True := by have h_ := c13; first | exact eq_true h_ | (simp only [i64_w, i32_w]; exact eq_true h_))
                    by_cases c14 : (wrap64 ((ji11) + 1)) ≤ ((⟨#[97, 98, 99, 100, 101, 102, 103, 104, 105, 106, 107, 108, 109, 110, 111, 112, 113, 114, 115, 116, 117, 118, 119, 120, 121, 122, 65, 66, 67, 68, 69, 70, 71, 72, 73, 74, 75, 76, 77, 78, 79, 80, 81, 82, 83, 84, 85, 86, 87, 88, 89, 90, 95, 48, 49, 50, 51, 52, 53, 54, 55, 56, 57]⟩ : ByteArray).size : Int)
                    · rw [if_pos c14] at H
                      have c14b0 := eq_true c14
                      have c14b1 : decide ((wrap64 ((ji11) + 1)) ≤ ((⟨#[97, 98, 99, 100, 101, 102, 103, 104, 105, 106, 107, 108, 109, 110, 111, 112, 113, 114, 115, 116, 117, 118, 119, 120, 121, 122, 65, 66, 67, 68, 69, 70, 71, 72, 73, 74, 75, 76, 77, 78, 79, 80, 81, 82, 83, 84, 85, 86, 87, 88, 89, 90, 95, 48, 49, 50, 51, 52, 53, 54, 55, 56, 57]⟩ : ByteArray).size : Int)) = true := decide_eq_true c14
                      (try have c14v0 : ((IntKind.i64.wrap ((ji11) + 1)) ≤ 63) = True := by have h_ := c14; first | exact eq_true h_ | (simp only [i64_w, i32_w]; exact eq_true h_))
                      by_cases c15 : x9_1.size + ((⟨#[97, 98, 99, 100, 101, 102, 103, 104, 105, 106, 107, 108, 109, 110, 111, 112, 113, 114, 115, 116, 117, 118, 119, 120, 121, 122, 65, 66, 67, 68, 69, 70, 71, 72, 73, 74, 75, 76, 77, 78, 79, 80, 81, 82, 83, 84, 85, 86, 87, 88, 89, 90, 95, 48, 49, 50, 51, 52, 53, 54, 55, 56, 57]⟩ : ByteArray).extract ((ji11) : Int).toNat ((wrap64 ((ji11) + 1)) : Int).toNat).size ≤ 9223372036854775807
                      · rw [if_pos c15] at H
                        have c15b0 := eq_true c15
                        have c15b1 : decide (x9_1.size + ((⟨#[97, 98, 99, 100, 101, 102, 103, 104, 105, 106, 107, 108, 109, 110, 111, 112, 113, 114, 115, 116, 117, 118, 119, 120, 121, 122, 65, 66, 67, 68, 69, 70, 71, 72, 73, 74, 75, 76, 77, 78, 79, 80, 81, 82, 83, 84, 85, 86, 87, 88, 89, 90, 95, 48, 49, 50, 51, 52, 53, 54, 55, 56, 57]⟩ : ByteArray).extract ((ji11) : Int).toNat ((wrap64 ((ji11) + 1)) : Int).toNat).size ≤ 9223372036854775807) = true := decide_eq_true c15
                        (try have c15v0 : (x9_1.size + ((⟨#[97, 98, 99, 100, 101, 102, 103, 104, 105, 106, 107, 108, 109, 110, 111, 112, 113, 114, 115, 116, 117, 118, 119, 120, 121, 122, 65, 66, 67, 68, 69, 70, 71, 72, 73, 74, 75, 76, 77, 78, 79, 80, 81, 82, 83, 84, 85, 86, 87, 88, 89, 90, 95, 48, 49, 50, 51, 52, 53, 54, 55, 56, 57]⟩ : ByteArray).extract ((ji11) : Int).toNat ((IntKind.i64.wrap ((ji11) + 1)) : Int).toNat).size ≤ 9223372036854775807) = True := by have h_ := c15; first | exact eq_true h_ | (simp only [i64_w, i32_w]; exact eq_true h_))
                        (try have c15v1 : (9223372036854775807 < x9_1.size + ((⟨#[97, 98, 99, 100, 101, 102, 103, 104, 105, 106, 107, 108, 109, 110, 111, 112, 113, 114, 115, 116, 117, 118, 119, 120, 121, 122, 65, 66, 67, 68, 69, 70, 71, 72, 73, 74, 75, 76, 77, 78, 79, 80, 81, 82, 83, 84, 85, 86, 87, 88, 89, 90, 95, 48, 49, 50, 51, 52, 53, 54, 55, 56, 57]⟩ : ByteArray).extract ((ji11) : Int).toNat ((IntKind.i64.wrap ((ji11) + 1)) : Int).toNat).size) = False := by have h_ := c15; first | exact eq_false (Nat.not_lt.2 h_) | (simp only [i64_w, i32_w]; exact eq_false (Nat.not_lt.2 h_)))
                        (try have c15v2 : (9223372036854775807 < x9_1.size + (((IntKind.i64.wrap ((ji11) + 1)) : Int).toNat - ((ji11) : Int).toNat)) = False := eq_false (by have h_ := c15; have e_ : (⟨#[97, 98, 99, 100, 101, 102, 103, 104, 105, 106, 107, 108, 109, 110, 111, 112, 113, 114, 115, 116, 117, 118, 119, 120, 121, 122, 65, 66, 67, 68, 69, 70, 71, 72, 73, 74, 75, 76, 77, 78, 79, 80, 81, 82, 83, 84, 85, 86, 87, 88, 89, 90, 95, 48, 49, 50, 51, 52, 53, 54, 55, 56, 57]⟩ : ByteArray).size = 63 := rfl; rw [ByteArray.size_extract, e_] at h_; simp only [i64_w, i32_w] at *; simp only [eq_iff_iff, iff_true, decide_eq_true_eq] at *; omega))
                        try have c15b2 : (9223372036854775807 < x9_1.size + ((⟨#[97, 98, 99, 100, 101, 102, 103, 104, 105, 106, 107, 108, 109, 110, 111, 112, 113, 114, 115, 116, 117, 118, 119, 120, 121, 122, 65, 66, 67, 68, 69, 70, 71, 72, 73, 74, 75, 76, 77, 78, 79, 80, 81, 82, 83, 84, 85, 86, 87, 88, 89, 90, 95, 48, 49, 50, 51, 52, 53, 54, 55, 56, 57]⟩ : ByteArray).extract ((ji11) : Int).toNat ((wrap64 ((ji11) + 1)) : Int).toNat).size) = False := eq_false (Nat.not_lt.2 c15)
                        try have c15b3 : (9223372036854775807 < x9_1.size + (((⟨#[97, 98, 99, 100, 101, 102, 103, 104, 105, 106, 107, 108, 109, 110, 111, 112, 113, 114, 115, 116, 117, 118, 119, 120, 121, 122, 65, 66, 67, 68, 69, 70, 71, 72, 73, 74, 75, 76, 77, 78, 79, 80, 81, 82, 83, 84, 85, 86, 87, 88, 89, 90, 95, 48, 49, 50, 51, 52, 53, 54, 55, 56, 57]⟩ : ByteArray).extract ((ji11) : Int).toNat ((wrap64 ((ji11) + 1)) : Int).toNat).size)) = False := eq_false (Nat.not_lt.2 (by have h_ := c15; simp only [ByteArray.size_append] at h_; exact h_))
                        have H' := Aside0.mk H
                        clear H
                        have p147 : 0 ≤ (x10_1 : Int) := of_decide_eq_true (by first | (with_reducible assumption) | assumption)
                        have q147 : x10_1 < (l0.length : Int) := of_decide_eq_true (by first | (with_reducible assumption) | assumption)
                        obtain ⟨ad147, e147, hx147_0⟩ := Kd.at_int HR0.out x10_1 p147 q147
                        cases e147
                        replace hx147_0 := (HB.out.cell (World.block_lt_of_cell? w _ hx147_0)).trans hx147_0
                        replace p147 := eq_true p147
                        replace q147 := eq_true q147
                        have p148 : 0 ≤ (x10_1 : Int) := of_decide_eq_true (by first | (with_reducible assumption) | assumption)
                        have q148 : x10_1 < (l0.length : Int) := of_decide_eq_true (by first | (with_reducible assumption) | assumption)
                        obtain ⟨ad148, e148, hx148_0⟩ := Kd.at_int HR0.out x10_1 p148 q148
                        obtain rfl : ad147 = ad148 := (by injection e148)
                        replace hx148_0 := (HB.out.cell (World.block_lt_of_cell? w _ hx148_0)).trans hx148_0
                        replace p148 := eq_true p148
                        replace q148 := eq_true q148
                        go_wp2
                        repeat (go_quiet (fail); try go_wp2)
                        go_roundg k1
                        case measure => have := HK1.out; omega
                        case rel => exact ⟨(x9_1 ++ ((⟨#[97, 98, 99, 100, 101, 102, 103, 104, 105, 106, 107, 108, 109, 110, 111, 112, 113, 114, 115, 116, 117, 118, 119, 120, 121, 122, 65, 66, 67, 68, 69, 70, 71, 72, 73, 74, 75, 76, 77, 78, 79, 80, 81, 82, 83, 84, 85, 86, 87, 88, 89, 90, 95, 48, 49, 50, 51, 52, 53, 54, 55, 56, 57]⟩ : ByteArray).extract ((ji11) : Int).toNat ((wrap64 ((ji11) + 1)) : Int).toNat)), (wrap64 (x10_1 + 1)), (by first | rfl | (simp; done) | (simp only [i64_w, i32_w]; done) | (simp only [← hji11] <;> (first | rfl | simp)) | (simp [*]; done)), (by first | rfl | (simp; done) | (simp [*]; done)), H', ⟨by have := HK1.out; omega⟩, ⟨by repeat (first | (with_reducible first | exact HB.out | apply below_alloc | apply pw_below_drewN | apply below_drew1) | exact HB.out)⟩⟩
                      · rw [if_neg c15] at H
                        exact absurd H (by simp)
                    · rw [if_neg c14] at H
                      exact absurd H (by simp)
                  · rw [if_neg c13] at H
                    exact absurd H (by simp)
                · rw [if_neg c12] at H
                  exact absurd H (by simp)
              · rw [if_neg c10] at H
                exact absurd H (by simp)
            · rw [if_neg c9] at H
              have c9b0 : decide (x10_1 < 19) = false := decide_eq_false c9
              clear c9
              have H' := Aside0.mk H
              clear H
              go_wp2
              repeat (go_quiet (fail); try go_wp2)
              go_meet
              case rel => exact ⟨_, (x9_1), (by first | rfl | (simp; done) | (simp [*]; done)), H', ⟨by have := HK1.out; first | omega | exact Nat.le_refl _⟩, ⟨by repeat (first | (with_reducible first | exact HB.out | apply below_alloc | apply pw_below_drewN | apply below_drew1) | exact HB.out)⟩⟩
          · rw [if_neg c8] at H
            have c8b0 : decide (x10_1 < (l0.length : Int)) = false := decide_eq_false c8
            clear c8
            (first | rw [c8b0] | (simp only [i64_w, i32_w]; rw [c8b0]) | skip)
            have H' := Aside0.mk H
            clear H
            go_wp2
            repeat (go_quiet (fail); try go_wp2)
            go_meet
            case rel => exact ⟨_, (x9_1), (by first | rfl | (simp; done) | (simp [*]; done)), H', ⟨by have := HK1.out; first | omega | exact Nat.le_refl _⟩, ⟨by repeat (first | (with_reducible first | exact HB.out | apply below_alloc | apply pw_below_drewN | apply below_drew1) | exact HB.out)⟩⟩
    case rest =>
      clear HC6
      try clear c1
      try clear p1
      try clear q1
      try clear hx1
      try clear p2
      try clear c4
      try clear c5
      try clear p6
      try clear c8
      try clear c8b0
      try clear c9
      try clear c9b0
      try clear c10
      try clear c10b0
      try clear c12
      try clear c12b0
      try clear c12b1
      try clear c13
      try clear c13b0
      try clear c13b1
      try clear c14
      try clear c14b0
      try clear c14b1
      try clear p14
      try clear q14
      try clear hx14
      try clear c15
      try clear c15b0
      try clear c15b1
      try clear c15b2
      try clear hx147_0
      try clear hx148_0
      try clear p147
      try clear p148
      try clear p2
      try clear q147
      try clear q148
      obtain ⟨kq, x9_5, rfl, HA, HJ5, HB⟩ := hcut
      cases kq with
      | zero => exact absurd HA.out (by simp [marshallinglaw03_StreamNames.j1])
      | succ kj5 =>
        have H := HA.out
        clear HA
        simp only [marshallinglaw03_StreamNames.j1] at H
        have H' := Aside0.mk H
        clear H
        go_wp2
        repeat (go_quiet (fail); try go_wp2)
        go_loopg [11] kj5 (fun kq v11 w' => ∃ (x11_2 : ByteArray), v11 = .string x11_2 ∧ Aside0 (marshallinglaw03_StreamNames.l1 kq a1 a2 x9_5 x11_2 = some r) ∧ Aside0 (kq ≤ kj5) ∧ Aside0 (Below w.heap.size w w'))
        case atStart => exact ⟨(x9_5), (by first | rfl | (simp; done) | (simp [*]; done)), H', ⟨Nat.le_refl _⟩, ⟨by repeat (first | (with_reducible first | exact HB.out | apply below_alloc | apply pw_below_drewN | apply below_drew1) | exact HB.out)⟩⟩
        case round =>
          clear H'
          try clear c1
          try clear p1
          try clear q1
          try clear hx1
          try clear p2
          try clear c4
          try clear c5
          try clear p6
          try clear c8
          try clear c8b0
          try clear c9
          try clear c9b0
          try clear c10
          try clear c10b0
          try clear c12
          try clear c12b0
          try clear c12b1
          try clear c13
          try clear c13b0
          try clear c13b1
          try clear c14
          try clear c14b0
          try clear c14b1
          try clear p14
          try clear q14
          try clear hx14
          try clear c15
          try clear c15b0
          try clear c15b1
          try clear c15b2
          try clear hx147_0
          try clear hx148_0
          try clear p1
          try clear p14
          try clear p147
          try clear p148
          try clear p2
          try clear p6
          try clear q1
          try clear q14
          try clear q147
          try clear q148
          obtain ⟨x11_2, rfl, HA, HK2, HB⟩ := hrel
          cases gk with
          | zero => exact absurd HA.out (by simp [marshallinglaw03_StreamNames.l1])
          | succ k2 =>
            have H := HA.out
            clear HA
            simp only [marshallinglaw03_StreamNames.l1] at H
            by_cases c16 : (x11_2.size : Int) < 21
            · rw [if_pos c16] at H
              have c16b0 : decide ((x11_2.size : Int) < 21) = true := decide_eq_true c16
              have c16b1 : decide (x11_2.size < 21) = true := decide_eq_true (by omega)
              clear c16
              by_cases c17 : x11_2.size + 1 ≤ 9223372036854775807
              · rw [if_pos c17] at H
                have c17b0 := eq_true c17
                have c17b1 : decide (x11_2.size + 1 ≤ 9223372036854775807) = true := decide_eq_true c17
                try have c17b2 : (9223372036854775807 < x11_2.size + 1) = False := eq_false (Nat.not_lt.2 c17)
                have H' := Aside0.mk H
                clear H
                go_wp2
                repeat (go_quiet (fail); try go_wp2)
                go_roundg k2
                case measure => have := HJ5.out; have := HK2.out; omega
                case rel => exact ⟨(x11_2 ++ (⟨#[122]⟩ : ByteArray)), (by first | rfl | (simp; done) | (simp [*]; done)), H', ⟨by have := HJ5.out; have := HK2.out; omega⟩, ⟨by repeat (first | (with_reducible first | exact HB.out | apply below_alloc | apply pw_below_drewN | apply below_drew1) | exact HB.out)⟩⟩
              · rw [if_neg c17] at H
                exact absurd H (by simp)
            · rw [if_neg c16] at H
              have c16b0 : decide ((x11_2.size : Int) < 21) = false := decide_eq_false c16
              have c16b1 : decide (x11_2.size < 21) = false := decide_eq_false (by omega)
              clear c16
              have H' := Aside0.mk H
              clear H
              have H := H'.out
              clear H'
              obtain ⟨q1, e1, H⟩ := Option.bind_eq_some_iff.mp H
              obtain ⟨q2, e2, H⟩ := Option.bind_eq_some_iff.mp H
              obtain ⟨q3, e3, H⟩ := Option.bind_eq_some_iff.mp H
              obtain ⟨q4, e4, H⟩ := Option.bind_eq_some_iff.mp H
              by_cases hok : namesOk x9_5 a1 a2 q1 q2 q3 q4 = true
              · rw [if_pos hok] at H
                obtain rfl := Option.some.inj H
                clear H
                have hok := of_decide_eq_true hok
                obtain ⟨h0, hs, hh, hp0, hp1, hb0, hb1, rfl, rfl, hq3, rfl⟩ := hok
                have hE : Int.tmod a1 (x9_5.size : Int) = ((placeN x9_5 a1 : Nat) : Int) := by
                  unfold placeN
                  rw [Int.tmod_eq_emod_of_nonneg hp0, Int.toNat_of_nonneg (Int.emod_nonneg _ (by omega))]
                have hj : placeN x9_5 a1 < x9_5.size := by
                  have := Int.emod_lt_of_pos a1 (b := (x9_5.size : Int)) (by omega)
                  have := Int.emod_nonneg a1 (b := (x9_5.size : Int)) (by omega)
                  unfold placeN
                  omega
                rw [← ByteArray.toList_eq] at hq3
                generalize placeN x9_5 a1 = j at hE hj hq3 e3
                have HK4 := Aside0.mk hj
                have ew : wrap64 a1 = a1 := by unfold wrap64; omega
                have hE2 : Int.tmod (wrap64 a1) (x9_5.size : Int) = (j : Int) := by rw [ew]; exact hE
                have z1 : ((x9_5.size : Int) = 0) = False := eq_false (by omega)
                have z2 : (x9_5.size = 0) = False := eq_false (by omega)
                have z3 : ((x9_5.size : Int) == 0) = false := by rw [beq_eq_false_iff_ne]; omega
                have z4 : ((j : Int) < (x9_5.size : Int)) = True := eq_true (by omega)
                have z5 : (j < x9_5.size) = True := eq_true hj
                have z6 : (0 ≤ (j : Int)) = True := eq_true (by omega)
                have z7 : (1 + x9_5.size ≤ 9223372036854775807) = True := eq_true (by omega)
                have z8 : (9223372036854775807 < 1 + x9_5.size) = False := eq_false (by omega)
                have z9 : (((⟨#[53]⟩ : ByteArray) ++ x9_5).size ≤ 9223372036854775807) = True := eq_true (by rw [ByteArray.size_append]; show 1 + _ ≤ _; omega)
                obtain ⟨cap, W1, hcv, ⟨u, hcl⟩, hfz, hback, hbel⟩ := turnedN x9_5 j hj hs a2 ⟨hb0, hb1⟩ w.heap.size w _ HB.out HB.out.size
                generalize hT : setB x9_5 j a2 = T at hq3 e3 hback
                clear HB
                have HB := Aside0.mk hbel
                clear hbel
                rcases keys7 T.toList with f1 | ⟨f1, f2⟩ | ⟨f1, f2, f3⟩ | ⟨f1, f2, f3, f4⟩ | ⟨f1, f2, f3, f4, f5⟩ | ⟨f1, f2, f3, f4, f5, f6⟩ | ⟨f1, f2, f3, f4, f5, f6⟩
                · obtain ⟨hj0, hbv⟩ := setB_key (j := j) (b := a2) 66 [89] hh ⟨hb0, hb1⟩ (by decide) (by rw [hT, ← ByteArray.toList_eq]; exact eq_of_beq f1)
                  replace hbv : a2 = 66 := hbv
                  have e97 : decide ((97 : Int) ≤ a2) = false := decide_eq_false (by omega)
                  have e65 : decide ((65 : Int) ≤ a2) = true := decide_eq_true (by omega)
                  have e48 : decide ((48 : Int) ≤ a2) = true := decide_eq_true (by omega)
                  have e122 : decide (a2 ≤ (122 : Int)) = true := decide_eq_true (by omega)
                  have e90 : decide (a2 ≤ (90 : Int)) = true := decide_eq_true (by omega)
                  have e57 : decide (a2 ≤ (57 : Int)) = false := decide_eq_false (by omega)
                  have e95 : decide (a2 = (95 : Int)) = false := decide_eq_false (by omega)
                  have g95 : (a2 == (95 : Int)) = false := by rw [beq_eq_false_iff_ne]; omega
                  have ej : decide ((0 : Int) < (j : Int)) = false := decide_eq_false (by omega)
                  have gj : decide (0 < j) = false := decide_eq_false (by omega)
                  have hm : mayN a2 j = true := decide_eq_true (by omega)
                  rw [hm] at hq3
                  have hk : keyN T.toList = true := by unfold keyN; simp only [f1]; rfl
                  rw [hk] at hq3
                  replace hq3 : q3 = false := hq3
                  subst hq3
                  clear hm hk HK4 hh hp0 hp1 hb0 hb1 h0 hs hT hj0 hj
                  (try clear hbv)
                  (try clear hi)
                  go_wp2_with (first | (go_at_call 16; (first | (with_reducible refine (stream_IsName.calls _ x9_5 true _ ?side1 e1).mono ?_) | (with_reducible refine (stream_IsName.calls _ x11_2 false _ ?side1 e2).mono ?_) | (with_reducible refine (stream_IsName.calls _ T false _ ?side1 e3).mono ?_) | (with_reducible refine (stream_IsName.calls _ ((⟨#[53]⟩ : ByteArray) ++ x9_5) false _ ?side1 e4).mono ?_)); (case side1 => exact Glob.below HG.out HB.out); rintro e w8 ⟨rfl, hb⟩; have n0_ := Aside0.mk (HB.out.trans (hb.mono HB.out.size)); clear HB hb; have HB := n0_; clear n0_))
                  go_ret
                  exact ⟨rfl, HB.out⟩
                · obtain ⟨hj0, hbv⟩ := setB_key (j := j) (b := a2) 69 [77, 73, 84] hh ⟨hb0, hb1⟩ (by decide) (by rw [hT, ← ByteArray.toList_eq]; exact eq_of_beq f2)
                  replace hbv : a2 = 69 := hbv
                  have e97 : decide ((97 : Int) ≤ a2) = false := decide_eq_false (by omega)
                  have e65 : decide ((65 : Int) ≤ a2) = true := decide_eq_true (by omega)
                  have e48 : decide ((48 : Int) ≤ a2) = true := decide_eq_true (by omega)
                  have e122 : decide (a2 ≤ (122 : Int)) = true := decide_eq_true (by omega)
                  have e90 : decide (a2 ≤ (90 : Int)) = true := decide_eq_true (by omega)
                  have e57 : decide (a2 ≤ (57 : Int)) = false := decide_eq_false (by omega)
                  have e95 : decide (a2 = (95 : Int)) = false := decide_eq_false (by omega)
                  have g95 : (a2 == (95 : Int)) = false := by rw [beq_eq_false_iff_ne]; omega
                  have ej : decide ((0 : Int) < (j : Int)) = false := decide_eq_false (by omega)
                  have gj : decide (0 < j) = false := decide_eq_false (by omega)
                  have hm : mayN a2 j = true := decide_eq_true (by omega)
                  rw [hm] at hq3
                  have hk : keyN T.toList = true := by unfold keyN; simp only [f1, f2]; rfl
                  rw [hk] at hq3
                  replace hq3 : q3 = false := hq3
                  subst hq3
                  clear hm hk HK4 hh hp0 hp1 hb0 hb1 h0 hs hT hj0 hj
                  (try clear hbv)
                  (try clear hi)
                  go_wp2_with (first | (go_at_call 16; (first | (with_reducible refine (stream_IsName.calls _ x9_5 true _ ?side1 e1).mono ?_) | (with_reducible refine (stream_IsName.calls _ x11_2 false _ ?side1 e2).mono ?_) | (with_reducible refine (stream_IsName.calls _ T false _ ?side1 e3).mono ?_) | (with_reducible refine (stream_IsName.calls _ ((⟨#[53]⟩ : ByteArray) ++ x9_5) false _ ?side1 e4).mono ?_)); (case side1 => exact Glob.below HG.out HB.out); rintro e w8 ⟨rfl, hb⟩; have n0_ := Aside0.mk (HB.out.trans (hb.mono HB.out.size)); clear HB hb; have HB := n0_; clear n0_))
                  go_ret
                  exact ⟨rfl, HB.out⟩
                · obtain ⟨hj0, hbv⟩ := setB_key (j := j) (b := a2) 116 [114, 117, 101] hh ⟨hb0, hb1⟩ (by decide) (by rw [hT, ← ByteArray.toList_eq]; exact eq_of_beq f3)
                  replace hbv : a2 = 116 := hbv
                  have e97 : decide ((97 : Int) ≤ a2) = true := decide_eq_true (by omega)
                  have e65 : decide ((65 : Int) ≤ a2) = true := decide_eq_true (by omega)
                  have e48 : decide ((48 : Int) ≤ a2) = true := decide_eq_true (by omega)
                  have e122 : decide (a2 ≤ (122 : Int)) = true := decide_eq_true (by omega)
                  have e90 : decide (a2 ≤ (90 : Int)) = false := decide_eq_false (by omega)
                  have e57 : decide (a2 ≤ (57 : Int)) = false := decide_eq_false (by omega)
                  have e95 : decide (a2 = (95 : Int)) = false := decide_eq_false (by omega)
                  have g95 : (a2 == (95 : Int)) = false := by rw [beq_eq_false_iff_ne]; omega
                  have ej : decide ((0 : Int) < (j : Int)) = false := decide_eq_false (by omega)
                  have gj : decide (0 < j) = false := decide_eq_false (by omega)
                  have hm : mayN a2 j = true := decide_eq_true (by omega)
                  rw [hm] at hq3
                  have hk : keyN T.toList = true := by unfold keyN; simp only [f1, f2, f3]; rfl
                  rw [hk] at hq3
                  replace hq3 : q3 = false := hq3
                  subst hq3
                  clear hm hk HK4 hh hp0 hp1 hb0 hb1 h0 hs hT hj0 hj
                  (try clear hbv)
                  (try clear hi)
                  go_wp2_with (first | (go_at_call 16; (first | (with_reducible refine (stream_IsName.calls _ x9_5 true _ ?side1 e1).mono ?_) | (with_reducible refine (stream_IsName.calls _ x11_2 false _ ?side1 e2).mono ?_) | (with_reducible refine (stream_IsName.calls _ T false _ ?side1 e3).mono ?_) | (with_reducible refine (stream_IsName.calls _ ((⟨#[53]⟩ : ByteArray) ++ x9_5) false _ ?side1 e4).mono ?_)); (case side1 => exact Glob.below HG.out HB.out); rintro e w8 ⟨rfl, hb⟩; have n0_ := Aside0.mk (HB.out.trans (hb.mono HB.out.size)); clear HB hb; have HB := n0_; clear n0_))
                  go_ret
                  exact ⟨rfl, HB.out⟩
                · obtain ⟨hj0, hbv⟩ := setB_key (j := j) (b := a2) 102 [97, 108, 115, 101] hh ⟨hb0, hb1⟩ (by decide) (by rw [hT, ← ByteArray.toList_eq]; exact eq_of_beq f4)
                  replace hbv : a2 = 102 := hbv
                  have e97 : decide ((97 : Int) ≤ a2) = true := decide_eq_true (by omega)
                  have e65 : decide ((65 : Int) ≤ a2) = true := decide_eq_true (by omega)
                  have e48 : decide ((48 : Int) ≤ a2) = true := decide_eq_true (by omega)
                  have e122 : decide (a2 ≤ (122 : Int)) = true := decide_eq_true (by omega)
                  have e90 : decide (a2 ≤ (90 : Int)) = false := decide_eq_false (by omega)
                  have e57 : decide (a2 ≤ (57 : Int)) = false := decide_eq_false (by omega)
                  have e95 : decide (a2 = (95 : Int)) = false := decide_eq_false (by omega)
                  have g95 : (a2 == (95 : Int)) = false := by rw [beq_eq_false_iff_ne]; omega
                  have ej : decide ((0 : Int) < (j : Int)) = false := decide_eq_false (by omega)
                  have gj : decide (0 < j) = false := decide_eq_false (by omega)
                  have hm : mayN a2 j = true := decide_eq_true (by omega)
                  rw [hm] at hq3
                  have hk : keyN T.toList = true := by unfold keyN; simp only [f1, f2, f3, f4]; rfl
                  rw [hk] at hq3
                  replace hq3 : q3 = false := hq3
                  subst hq3
                  clear hm hk HK4 hh hp0 hp1 hb0 hb1 h0 hs hT hj0 hj
                  (try clear hbv)
                  (try clear hi)
                  go_wp2_with (first | (go_at_call 16; (first | (with_reducible refine (stream_IsName.calls _ x9_5 true _ ?side1 e1).mono ?_) | (with_reducible refine (stream_IsName.calls _ x11_2 false _ ?side1 e2).mono ?_) | (with_reducible refine (stream_IsName.calls _ T false _ ?side1 e3).mono ?_) | (with_reducible refine (stream_IsName.calls _ ((⟨#[53]⟩ : ByteArray) ++ x9_5) false _ ?side1 e4).mono ?_)); (case side1 => exact Glob.below HG.out HB.out); rintro e w8 ⟨rfl, hb⟩; have n0_ := Aside0.mk (HB.out.trans (hb.mono HB.out.size)); clear HB hb; have HB := n0_; clear n0_))
                  go_ret
                  exact ⟨rfl, HB.out⟩
                · obtain ⟨hj0, hbv⟩ := setB_key (j := j) (b := a2) 83 [84, 82, 73, 67, 84] hh ⟨hb0, hb1⟩ (by decide) (by rw [hT, ← ByteArray.toList_eq]; exact eq_of_beq f5)
                  replace hbv : a2 = 83 := hbv
                  have e97 : decide ((97 : Int) ≤ a2) = false := decide_eq_false (by omega)
                  have e65 : decide ((65 : Int) ≤ a2) = true := decide_eq_true (by omega)
                  have e48 : decide ((48 : Int) ≤ a2) = true := decide_eq_true (by omega)
                  have e122 : decide (a2 ≤ (122 : Int)) = true := decide_eq_true (by omega)
                  have e90 : decide (a2 ≤ (90 : Int)) = true := decide_eq_true (by omega)
                  have e57 : decide (a2 ≤ (57 : Int)) = false := decide_eq_false (by omega)
                  have e95 : decide (a2 = (95 : Int)) = false := decide_eq_false (by omega)
                  have g95 : (a2 == (95 : Int)) = false := by rw [beq_eq_false_iff_ne]; omega
                  have ej : decide ((0 : Int) < (j : Int)) = false := decide_eq_false (by omega)
                  have gj : decide (0 < j) = false := decide_eq_false (by omega)
                  have hm : mayN a2 j = true := decide_eq_true (by omega)
                  rw [hm] at hq3
                  have hk : keyN T.toList = true := by unfold keyN; simp only [f1, f2, f3, f4, f5]; rfl
                  rw [hk] at hq3
                  replace hq3 : q3 = false := hq3
                  subst hq3
                  clear hm hk HK4 hh hp0 hp1 hb0 hb1 h0 hs hT hj0 hj
                  (try clear hbv)
                  (try clear hi)
                  go_wp2_with (first | (go_at_call 16; (first | (with_reducible refine (stream_IsName.calls _ x9_5 true _ ?side1 e1).mono ?_) | (with_reducible refine (stream_IsName.calls _ x11_2 false _ ?side1 e2).mono ?_) | (with_reducible refine (stream_IsName.calls _ T false _ ?side1 e3).mono ?_) | (with_reducible refine (stream_IsName.calls _ ((⟨#[53]⟩ : ByteArray) ++ x9_5) false _ ?side1 e4).mono ?_)); (case side1 => exact Glob.below HG.out HB.out); rintro e w8 ⟨rfl, hb⟩; have n0_ := Aside0.mk (HB.out.trans (hb.mono HB.out.size)); clear HB hb; have HB := n0_; clear n0_))
                  go_ret
                  exact ⟨rfl, HB.out⟩
                · obtain ⟨hj0, hbv⟩ := setB_key (j := j) (b := a2) 87 [73, 84, 72, 73, 78] hh ⟨hb0, hb1⟩ (by decide) (by rw [hT, ← ByteArray.toList_eq]; exact eq_of_beq f6)
                  replace hbv : a2 = 87 := hbv
                  have e97 : decide ((97 : Int) ≤ a2) = false := decide_eq_false (by omega)
                  have e65 : decide ((65 : Int) ≤ a2) = true := decide_eq_true (by omega)
                  have e48 : decide ((48 : Int) ≤ a2) = true := decide_eq_true (by omega)
                  have e122 : decide (a2 ≤ (122 : Int)) = true := decide_eq_true (by omega)
                  have e90 : decide (a2 ≤ (90 : Int)) = true := decide_eq_true (by omega)
                  have e57 : decide (a2 ≤ (57 : Int)) = false := decide_eq_false (by omega)
                  have e95 : decide (a2 = (95 : Int)) = false := decide_eq_false (by omega)
                  have g95 : (a2 == (95 : Int)) = false := by rw [beq_eq_false_iff_ne]; omega
                  have ej : decide ((0 : Int) < (j : Int)) = false := decide_eq_false (by omega)
                  have gj : decide (0 < j) = false := decide_eq_false (by omega)
                  have hm : mayN a2 j = true := decide_eq_true (by omega)
                  rw [hm] at hq3
                  have hk : keyN T.toList = true := by unfold keyN; simp only [f1, f2, f3, f4, f5, f6]; rfl
                  rw [hk] at hq3
                  replace hq3 : q3 = false := hq3
                  subst hq3
                  clear hm hk HK4 hh hp0 hp1 hb0 hb1 h0 hs hT hj0 hj
                  (try clear hbv)
                  (try clear hi)
                  go_wp2_with (first | (go_at_call 16; (first | (with_reducible refine (stream_IsName.calls _ x9_5 true _ ?side1 e1).mono ?_) | (with_reducible refine (stream_IsName.calls _ x11_2 false _ ?side1 e2).mono ?_) | (with_reducible refine (stream_IsName.calls _ T false _ ?side1 e3).mono ?_) | (with_reducible refine (stream_IsName.calls _ ((⟨#[53]⟩ : ByteArray) ++ x9_5) false _ ?side1 e4).mono ?_)); (case side1 => exact Glob.below HG.out HB.out); rintro e w8 ⟨rfl, hb⟩; have n0_ := Aside0.mk (HB.out.trans (hb.mono HB.out.size)); clear HB hb; have HB := n0_; clear n0_))
                  go_ret
                  exact ⟨rfl, HB.out⟩
                · have hint : (0 ≤ a2 ∧ a2 ≤ 47) ∨ (48 ≤ a2 ∧ a2 ≤ 57) ∨ (58 ≤ a2 ∧ a2 ≤ 64) ∨ (65 ≤ a2 ∧ a2 ≤ 90) ∨ (91 ≤ a2 ∧ a2 ≤ 94) ∨ (95 ≤ a2 ∧ a2 ≤ 95) ∨ (96 ≤ a2 ∧ a2 ≤ 96) ∨ (97 ≤ a2 ∧ a2 ≤ 122) ∨ (123 ≤ a2 ∧ a2 ≤ 255) := by omega
                  rcases hint with hi | hi | hi | hi | hi | hi | hi | hi | hi
                  · rcases Nat.eq_zero_or_pos j with hj0 | hj0
                    · skip
                      have e97 : decide ((97 : Int) ≤ a2) = false := decide_eq_false (by omega)
                      have e65 : decide ((65 : Int) ≤ a2) = false := decide_eq_false (by omega)
                      have e48 : decide ((48 : Int) ≤ a2) = false := decide_eq_false (by omega)
                      have e122 : decide (a2 ≤ (122 : Int)) = true := decide_eq_true (by omega)
                      have e90 : decide (a2 ≤ (90 : Int)) = true := decide_eq_true (by omega)
                      have e57 : decide (a2 ≤ (57 : Int)) = true := decide_eq_true (by omega)
                      have e95 : decide (a2 = (95 : Int)) = false := decide_eq_false (by omega)
                      have g95 : (a2 == (95 : Int)) = false := by rw [beq_eq_false_iff_ne]; omega
                      have ej : decide ((0 : Int) < (j : Int)) = false := decide_eq_false (by omega)
                      have gj : decide (0 < j) = false := decide_eq_false (by omega)
                      have hm : mayN a2 j = false := decide_eq_false (by omega)
                      rw [hm] at hq3
                      have hk : keyN T.toList = false := by unfold keyN; simp only [f1, f2, f3, f4, f5, f6]; rfl
                      rw [hk] at hq3
                      replace hq3 : q3 = false := hq3
                      subst hq3
                      clear hm hk HK4 hh hp0 hp1 hb0 hb1 h0 hs hT hj0 hj
                      (try clear hbv)
                      (try clear hi)
                      go_wp2_with (first | (go_at_call 16; (first | (with_reducible refine (stream_IsName.calls _ x9_5 true _ ?side1 e1).mono ?_) | (with_reducible refine (stream_IsName.calls _ x11_2 false _ ?side1 e2).mono ?_) | (with_reducible refine (stream_IsName.calls _ T false _ ?side1 e3).mono ?_) | (with_reducible refine (stream_IsName.calls _ ((⟨#[53]⟩ : ByteArray) ++ x9_5) false _ ?side1 e4).mono ?_)); (case side1 => exact Glob.below HG.out HB.out); rintro e w8 ⟨rfl, hb⟩; have n0_ := Aside0.mk (HB.out.trans (hb.mono HB.out.size)); clear HB hb; have HB := n0_; clear n0_))
                      go_ret
                      exact ⟨rfl, HB.out⟩
                    · skip
                      have e97 : decide ((97 : Int) ≤ a2) = false := decide_eq_false (by omega)
                      have e65 : decide ((65 : Int) ≤ a2) = false := decide_eq_false (by omega)
                      have e48 : decide ((48 : Int) ≤ a2) = false := decide_eq_false (by omega)
                      have e122 : decide (a2 ≤ (122 : Int)) = true := decide_eq_true (by omega)
                      have e90 : decide (a2 ≤ (90 : Int)) = true := decide_eq_true (by omega)
                      have e57 : decide (a2 ≤ (57 : Int)) = true := decide_eq_true (by omega)
                      have e95 : decide (a2 = (95 : Int)) = false := decide_eq_false (by omega)
                      have g95 : (a2 == (95 : Int)) = false := by rw [beq_eq_false_iff_ne]; omega
                      have ej : decide ((0 : Int) < (j : Int)) = true := decide_eq_true (by omega)
                      have gj : decide (0 < j) = true := decide_eq_true (by omega)
                      have hm : mayN a2 j = false := decide_eq_false (by omega)
                      rw [hm] at hq3
                      have hk : keyN T.toList = false := by unfold keyN; simp only [f1, f2, f3, f4, f5, f6]; rfl
                      rw [hk] at hq3
                      replace hq3 : q3 = false := hq3
                      subst hq3
                      clear hm hk HK4 hh hp0 hp1 hb0 hb1 h0 hs hT hj0 hj
                      (try clear hbv)
                      (try clear hi)
                      go_wp2_with (first | (go_at_call 16; (first | (with_reducible refine (stream_IsName.calls _ x9_5 true _ ?side1 e1).mono ?_) | (with_reducible refine (stream_IsName.calls _ x11_2 false _ ?side1 e2).mono ?_) | (with_reducible refine (stream_IsName.calls _ T false _ ?side1 e3).mono ?_) | (with_reducible refine (stream_IsName.calls _ ((⟨#[53]⟩ : ByteArray) ++ x9_5) false _ ?side1 e4).mono ?_)); (case side1 => exact Glob.below HG.out HB.out); rintro e w8 ⟨rfl, hb⟩; have n0_ := Aside0.mk (HB.out.trans (hb.mono HB.out.size)); clear HB hb; have HB := n0_; clear n0_))
                      go_ret
                      exact ⟨rfl, HB.out⟩
                  · rcases Nat.eq_zero_or_pos j with hj0 | hj0
                    · skip
                      have e97 : decide ((97 : Int) ≤ a2) = false := decide_eq_false (by omega)
                      have e65 : decide ((65 : Int) ≤ a2) = false := decide_eq_false (by omega)
                      have e48 : decide ((48 : Int) ≤ a2) = true := decide_eq_true (by omega)
                      have e122 : decide (a2 ≤ (122 : Int)) = true := decide_eq_true (by omega)
                      have e90 : decide (a2 ≤ (90 : Int)) = true := decide_eq_true (by omega)
                      have e57 : decide (a2 ≤ (57 : Int)) = true := decide_eq_true (by omega)
                      have e95 : decide (a2 = (95 : Int)) = false := decide_eq_false (by omega)
                      have g95 : (a2 == (95 : Int)) = false := by rw [beq_eq_false_iff_ne]; omega
                      have ej : decide ((0 : Int) < (j : Int)) = false := decide_eq_false (by omega)
                      have gj : decide (0 < j) = false := decide_eq_false (by omega)
                      have hm : mayN a2 j = false := decide_eq_false (by omega)
                      rw [hm] at hq3
                      have hk : keyN T.toList = false := by unfold keyN; simp only [f1, f2, f3, f4, f5, f6]; rfl
                      rw [hk] at hq3
                      replace hq3 : q3 = false := hq3
                      subst hq3
                      clear hm hk HK4 hh hp0 hp1 hb0 hb1 h0 hs hT hj0 hj
                      (try clear hbv)
                      (try clear hi)
                      go_wp2_with (first | (go_at_call 16; (first | (with_reducible refine (stream_IsName.calls _ x9_5 true _ ?side1 e1).mono ?_) | (with_reducible refine (stream_IsName.calls _ x11_2 false _ ?side1 e2).mono ?_) | (with_reducible refine (stream_IsName.calls _ T false _ ?side1 e3).mono ?_) | (with_reducible refine (stream_IsName.calls _ ((⟨#[53]⟩ : ByteArray) ++ x9_5) false _ ?side1 e4).mono ?_)); (case side1 => exact Glob.below HG.out HB.out); rintro e w8 ⟨rfl, hb⟩; have n0_ := Aside0.mk (HB.out.trans (hb.mono HB.out.size)); clear HB hb; have HB := n0_; clear n0_))
                      go_ret
                      exact ⟨rfl, HB.out⟩
                    · skip
                      have e97 : decide ((97 : Int) ≤ a2) = false := decide_eq_false (by omega)
                      have e65 : decide ((65 : Int) ≤ a2) = false := decide_eq_false (by omega)
                      have e48 : decide ((48 : Int) ≤ a2) = true := decide_eq_true (by omega)
                      have e122 : decide (a2 ≤ (122 : Int)) = true := decide_eq_true (by omega)
                      have e90 : decide (a2 ≤ (90 : Int)) = true := decide_eq_true (by omega)
                      have e57 : decide (a2 ≤ (57 : Int)) = true := decide_eq_true (by omega)
                      have e95 : decide (a2 = (95 : Int)) = false := decide_eq_false (by omega)
                      have g95 : (a2 == (95 : Int)) = false := by rw [beq_eq_false_iff_ne]; omega
                      have ej : decide ((0 : Int) < (j : Int)) = true := decide_eq_true (by omega)
                      have gj : decide (0 < j) = true := decide_eq_true (by omega)
                      have hm : mayN a2 j = true := decide_eq_true (by omega)
                      rw [hm] at hq3
                      have hk : keyN T.toList = false := by unfold keyN; simp only [f1, f2, f3, f4, f5, f6]; rfl
                      rw [hk] at hq3
                      replace hq3 : q3 = true := hq3
                      subst hq3
                      clear hm hk HK4 hh hp0 hp1 hb0 hb1 h0 hs hT hj0 hj
                      (try clear hbv)
                      (try clear hi)
                      go_wp2_with (first | (go_at_call 16; (first | (with_reducible refine (stream_IsName.calls _ x9_5 true _ ?side1 e1).mono ?_) | (with_reducible refine (stream_IsName.calls _ x11_2 false _ ?side1 e2).mono ?_) | (with_reducible refine (stream_IsName.calls _ T true _ ?side1 e3).mono ?_) | (with_reducible refine (stream_IsName.calls _ ((⟨#[53]⟩ : ByteArray) ++ x9_5) false _ ?side1 e4).mono ?_)); (case side1 => exact Glob.below HG.out HB.out); rintro e w8 ⟨rfl, hb⟩; have n0_ := Aside0.mk (HB.out.trans (hb.mono HB.out.size)); clear HB hb; have HB := n0_; clear n0_))
                      go_ret
                      exact ⟨rfl, HB.out⟩
                  · rcases Nat.eq_zero_or_pos j with hj0 | hj0
                    · skip
                      have e97 : decide ((97 : Int) ≤ a2) = false := decide_eq_false (by omega)
                      have e65 : decide ((65 : Int) ≤ a2) = false := decide_eq_false (by omega)
                      have e48 : decide ((48 : Int) ≤ a2) = true := decide_eq_true (by omega)
                      have e122 : decide (a2 ≤ (122 : Int)) = true := decide_eq_true (by omega)
                      have e90 : decide (a2 ≤ (90 : Int)) = true := decide_eq_true (by omega)
                      have e57 : decide (a2 ≤ (57 : Int)) = false := decide_eq_false (by omega)
                      have e95 : decide (a2 = (95 : Int)) = false := decide_eq_false (by omega)
                      have g95 : (a2 == (95 : Int)) = false := by rw [beq_eq_false_iff_ne]; omega
                      have ej : decide ((0 : Int) < (j : Int)) = false := decide_eq_false (by omega)
                      have gj : decide (0 < j) = false := decide_eq_false (by omega)
                      have hm : mayN a2 j = false := decide_eq_false (by omega)
                      rw [hm] at hq3
                      have hk : keyN T.toList = false := by unfold keyN; simp only [f1, f2, f3, f4, f5, f6]; rfl
                      rw [hk] at hq3
                      replace hq3 : q3 = false := hq3
                      subst hq3
                      clear hm hk HK4 hh hp0 hp1 hb0 hb1 h0 hs hT hj0 hj
                      (try clear hbv)
                      (try clear hi)
                      go_wp2_with (first | (go_at_call 16; (first | (with_reducible refine (stream_IsName.calls _ x9_5 true _ ?side1 e1).mono ?_) | (with_reducible refine (stream_IsName.calls _ x11_2 false _ ?side1 e2).mono ?_) | (with_reducible refine (stream_IsName.calls _ T false _ ?side1 e3).mono ?_) | (with_reducible refine (stream_IsName.calls _ ((⟨#[53]⟩ : ByteArray) ++ x9_5) false _ ?side1 e4).mono ?_)); (case side1 => exact Glob.below HG.out HB.out); rintro e w8 ⟨rfl, hb⟩; have n0_ := Aside0.mk (HB.out.trans (hb.mono HB.out.size)); clear HB hb; have HB := n0_; clear n0_))
                      go_ret
                      exact ⟨rfl, HB.out⟩
                    · skip
                      have e97 : decide ((97 : Int) ≤ a2) = false := decide_eq_false (by omega)
                      have e65 : decide ((65 : Int) ≤ a2) = false := decide_eq_false (by omega)
                      have e48 : decide ((48 : Int) ≤ a2) = true := decide_eq_true (by omega)
                      have e122 : decide (a2 ≤ (122 : Int)) = true := decide_eq_true (by omega)
                      have e90 : decide (a2 ≤ (90 : Int)) = true := decide_eq_true (by omega)
                      have e57 : decide (a2 ≤ (57 : Int)) = false := decide_eq_false (by omega)
                      have e95 : decide (a2 = (95 : Int)) = false := decide_eq_false (by omega)
                      have g95 : (a2 == (95 : Int)) = false := by rw [beq_eq_false_iff_ne]; omega
                      have ej : decide ((0 : Int) < (j : Int)) = true := decide_eq_true (by omega)
                      have gj : decide (0 < j) = true := decide_eq_true (by omega)
                      have hm : mayN a2 j = false := decide_eq_false (by omega)
                      rw [hm] at hq3
                      have hk : keyN T.toList = false := by unfold keyN; simp only [f1, f2, f3, f4, f5, f6]; rfl
                      rw [hk] at hq3
                      replace hq3 : q3 = false := hq3
                      subst hq3
                      clear hm hk HK4 hh hp0 hp1 hb0 hb1 h0 hs hT hj0 hj
                      (try clear hbv)
                      (try clear hi)
                      go_wp2_with (first | (go_at_call 16; (first | (with_reducible refine (stream_IsName.calls _ x9_5 true _ ?side1 e1).mono ?_) | (with_reducible refine (stream_IsName.calls _ x11_2 false _ ?side1 e2).mono ?_) | (with_reducible refine (stream_IsName.calls _ T false _ ?side1 e3).mono ?_) | (with_reducible refine (stream_IsName.calls _ ((⟨#[53]⟩ : ByteArray) ++ x9_5) false _ ?side1 e4).mono ?_)); (case side1 => exact Glob.below HG.out HB.out); rintro e w8 ⟨rfl, hb⟩; have n0_ := Aside0.mk (HB.out.trans (hb.mono HB.out.size)); clear HB hb; have HB := n0_; clear n0_))
                      go_ret
                      exact ⟨rfl, HB.out⟩
                  · rcases Nat.eq_zero_or_pos j with hj0 | hj0
                    · skip
                      have e97 : decide ((97 : Int) ≤ a2) = false := decide_eq_false (by omega)
                      have e65 : decide ((65 : Int) ≤ a2) = true := decide_eq_true (by omega)
                      have e48 : decide ((48 : Int) ≤ a2) = true := decide_eq_true (by omega)
                      have e122 : decide (a2 ≤ (122 : Int)) = true := decide_eq_true (by omega)
                      have e90 : decide (a2 ≤ (90 : Int)) = true := decide_eq_true (by omega)
                      have e57 : decide (a2 ≤ (57 : Int)) = false := decide_eq_false (by omega)
                      have e95 : decide (a2 = (95 : Int)) = false := decide_eq_false (by omega)
                      have g95 : (a2 == (95 : Int)) = false := by rw [beq_eq_false_iff_ne]; omega
                      have ej : decide ((0 : Int) < (j : Int)) = false := decide_eq_false (by omega)
                      have gj : decide (0 < j) = false := decide_eq_false (by omega)
                      have hm : mayN a2 j = true := decide_eq_true (by omega)
                      rw [hm] at hq3
                      have hk : keyN T.toList = false := by unfold keyN; simp only [f1, f2, f3, f4, f5, f6]; rfl
                      rw [hk] at hq3
                      replace hq3 : q3 = true := hq3
                      subst hq3
                      clear hm hk HK4 hh hp0 hp1 hb0 hb1 h0 hs hT hj0 hj
                      (try clear hbv)
                      (try clear hi)
                      go_wp2_with (first | (go_at_call 16; (first | (with_reducible refine (stream_IsName.calls _ x9_5 true _ ?side1 e1).mono ?_) | (with_reducible refine (stream_IsName.calls _ x11_2 false _ ?side1 e2).mono ?_) | (with_reducible refine (stream_IsName.calls _ T true _ ?side1 e3).mono ?_) | (with_reducible refine (stream_IsName.calls _ ((⟨#[53]⟩ : ByteArray) ++ x9_5) false _ ?side1 e4).mono ?_)); (case side1 => exact Glob.below HG.out HB.out); rintro e w8 ⟨rfl, hb⟩; have n0_ := Aside0.mk (HB.out.trans (hb.mono HB.out.size)); clear HB hb; have HB := n0_; clear n0_))
                      go_ret
                      exact ⟨rfl, HB.out⟩
                    · skip
                      have e97 : decide ((97 : Int) ≤ a2) = false := decide_eq_false (by omega)
                      have e65 : decide ((65 : Int) ≤ a2) = true := decide_eq_true (by omega)
                      have e48 : decide ((48 : Int) ≤ a2) = true := decide_eq_true (by omega)
                      have e122 : decide (a2 ≤ (122 : Int)) = true := decide_eq_true (by omega)
                      have e90 : decide (a2 ≤ (90 : Int)) = true := decide_eq_true (by omega)
                      have e57 : decide (a2 ≤ (57 : Int)) = false := decide_eq_false (by omega)
                      have e95 : decide (a2 = (95 : Int)) = false := decide_eq_false (by omega)
                      have g95 : (a2 == (95 : Int)) = false := by rw [beq_eq_false_iff_ne]; omega
                      have ej : decide ((0 : Int) < (j : Int)) = true := decide_eq_true (by omega)
                      have gj : decide (0 < j) = true := decide_eq_true (by omega)
                      have hm : mayN a2 j = true := decide_eq_true (by omega)
                      rw [hm] at hq3
                      have hk : keyN T.toList = false := by unfold keyN; simp only [f1, f2, f3, f4, f5, f6]; rfl
                      rw [hk] at hq3
                      replace hq3 : q3 = true := hq3
                      subst hq3
                      clear hm hk HK4 hh hp0 hp1 hb0 hb1 h0 hs hT hj0 hj
                      (try clear hbv)
                      (try clear hi)
                      go_wp2_with (first | (go_at_call 16; (first | (with_reducible refine (stream_IsName.calls _ x9_5 true _ ?side1 e1).mono ?_) | (with_reducible refine (stream_IsName.calls _ x11_2 false _ ?side1 e2).mono ?_) | (with_reducible refine (stream_IsName.calls _ T true _ ?side1 e3).mono ?_) | (with_reducible refine (stream_IsName.calls _ ((⟨#[53]⟩ : ByteArray) ++ x9_5) false _ ?side1 e4).mono ?_)); (case side1 => exact Glob.below HG.out HB.out); rintro e w8 ⟨rfl, hb⟩; have n0_ := Aside0.mk (HB.out.trans (hb.mono HB.out.size)); clear HB hb; have HB := n0_; clear n0_))
                      go_ret
                      exact ⟨rfl, HB.out⟩
                  · rcases Nat.eq_zero_or_pos j with hj0 | hj0
                    · skip
                      have e97 : decide ((97 : Int) ≤ a2) = false := decide_eq_false (by omega)
                      have e65 : decide ((65 : Int) ≤ a2) = true := decide_eq_true (by omega)
                      have e48 : decide ((48 : Int) ≤ a2) = true := decide_eq_true (by omega)
                      have e122 : decide (a2 ≤ (122 : Int)) = true := decide_eq_true (by omega)
                      have e90 : decide (a2 ≤ (90 : Int)) = false := decide_eq_false (by omega)
                      have e57 : decide (a2 ≤ (57 : Int)) = false := decide_eq_false (by omega)
                      have e95 : decide (a2 = (95 : Int)) = false := decide_eq_false (by omega)
                      have g95 : (a2 == (95 : Int)) = false := by rw [beq_eq_false_iff_ne]; omega
                      have ej : decide ((0 : Int) < (j : Int)) = false := decide_eq_false (by omega)
                      have gj : decide (0 < j) = false := decide_eq_false (by omega)
                      have hm : mayN a2 j = false := decide_eq_false (by omega)
                      rw [hm] at hq3
                      have hk : keyN T.toList = false := by unfold keyN; simp only [f1, f2, f3, f4, f5, f6]; rfl
                      rw [hk] at hq3
                      replace hq3 : q3 = false := hq3
                      subst hq3
                      clear hm hk HK4 hh hp0 hp1 hb0 hb1 h0 hs hT hj0 hj
                      (try clear hbv)
                      (try clear hi)
                      go_wp2_with (first | (go_at_call 16; (first | (with_reducible refine (stream_IsName.calls _ x9_5 true _ ?side1 e1).mono ?_) | (with_reducible refine (stream_IsName.calls _ x11_2 false _ ?side1 e2).mono ?_) | (with_reducible refine (stream_IsName.calls _ T false _ ?side1 e3).mono ?_) | (with_reducible refine (stream_IsName.calls _ ((⟨#[53]⟩ : ByteArray) ++ x9_5) false _ ?side1 e4).mono ?_)); (case side1 => exact Glob.below HG.out HB.out); rintro e w8 ⟨rfl, hb⟩; have n0_ := Aside0.mk (HB.out.trans (hb.mono HB.out.size)); clear HB hb; have HB := n0_; clear n0_))
                      go_ret
                      exact ⟨rfl, HB.out⟩
                    · skip
                      have e97 : decide ((97 : Int) ≤ a2) = false := decide_eq_false (by omega)
                      have e65 : decide ((65 : Int) ≤ a2) = true := decide_eq_true (by omega)
                      have e48 : decide ((48 : Int) ≤ a2) = true := decide_eq_true (by omega)
                      have e122 : decide (a2 ≤ (122 : Int)) = true := decide_eq_true (by omega)
                      have e90 : decide (a2 ≤ (90 : Int)) = false := decide_eq_false (by omega)
                      have e57 : decide (a2 ≤ (57 : Int)) = false := decide_eq_false (by omega)
                      have e95 : decide (a2 = (95 : Int)) = false := decide_eq_false (by omega)
                      have g95 : (a2 == (95 : Int)) = false := by rw [beq_eq_false_iff_ne]; omega
                      have ej : decide ((0 : Int) < (j : Int)) = true := decide_eq_true (by omega)
                      have gj : decide (0 < j) = true := decide_eq_true (by omega)
                      have hm : mayN a2 j = false := decide_eq_false (by omega)
                      rw [hm] at hq3
                      have hk : keyN T.toList = false := by unfold keyN; simp only [f1, f2, f3, f4, f5, f6]; rfl
                      rw [hk] at hq3
                      replace hq3 : q3 = false := hq3
                      subst hq3
                      clear hm hk HK4 hh hp0 hp1 hb0 hb1 h0 hs hT hj0 hj
                      (try clear hbv)
                      (try clear hi)
                      go_wp2_with (first | (go_at_call 16; (first | (with_reducible refine (stream_IsName.calls _ x9_5 true _ ?side1 e1).mono ?_) | (with_reducible refine (stream_IsName.calls _ x11_2 false _ ?side1 e2).mono ?_) | (with_reducible refine (stream_IsName.calls _ T false _ ?side1 e3).mono ?_) | (with_reducible refine (stream_IsName.calls _ ((⟨#[53]⟩ : ByteArray) ++ x9_5) false _ ?side1 e4).mono ?_)); (case side1 => exact Glob.below HG.out HB.out); rintro e w8 ⟨rfl, hb⟩; have n0_ := Aside0.mk (HB.out.trans (hb.mono HB.out.size)); clear HB hb; have HB := n0_; clear n0_))
                      go_ret
                      exact ⟨rfl, HB.out⟩
                  · rcases Nat.eq_zero_or_pos j with hj0 | hj0
                    · skip
                      have e97 : decide ((97 : Int) ≤ a2) = false := decide_eq_false (by omega)
                      have e65 : decide ((65 : Int) ≤ a2) = true := decide_eq_true (by omega)
                      have e48 : decide ((48 : Int) ≤ a2) = true := decide_eq_true (by omega)
                      have e122 : decide (a2 ≤ (122 : Int)) = true := decide_eq_true (by omega)
                      have e90 : decide (a2 ≤ (90 : Int)) = false := decide_eq_false (by omega)
                      have e57 : decide (a2 ≤ (57 : Int)) = false := decide_eq_false (by omega)
                      have e95 : decide (a2 = (95 : Int)) = true := decide_eq_true (by omega)
                      have g95 : (a2 == (95 : Int)) = true := by rw [beq_iff_eq]; omega
                      have ej : decide ((0 : Int) < (j : Int)) = false := decide_eq_false (by omega)
                      have gj : decide (0 < j) = false := decide_eq_false (by omega)
                      have hm : mayN a2 j = true := decide_eq_true (by omega)
                      rw [hm] at hq3
                      have hk : keyN T.toList = false := by unfold keyN; simp only [f1, f2, f3, f4, f5, f6]; rfl
                      rw [hk] at hq3
                      replace hq3 : q3 = true := hq3
                      subst hq3
                      clear hm hk HK4 hh hp0 hp1 hb0 hb1 h0 hs hT hj0 hj
                      (try clear hbv)
                      (try clear hi)
                      go_wp2_with (first | (go_at_call 16; (first | (with_reducible refine (stream_IsName.calls _ x9_5 true _ ?side1 e1).mono ?_) | (with_reducible refine (stream_IsName.calls _ x11_2 false _ ?side1 e2).mono ?_) | (with_reducible refine (stream_IsName.calls _ T true _ ?side1 e3).mono ?_) | (with_reducible refine (stream_IsName.calls _ ((⟨#[53]⟩ : ByteArray) ++ x9_5) false _ ?side1 e4).mono ?_)); (case side1 => exact Glob.below HG.out HB.out); rintro e w8 ⟨rfl, hb⟩; have n0_ := Aside0.mk (HB.out.trans (hb.mono HB.out.size)); clear HB hb; have HB := n0_; clear n0_))
                      go_ret
                      exact ⟨rfl, HB.out⟩
                    · skip
                      have e97 : decide ((97 : Int) ≤ a2) = false := decide_eq_false (by omega)
                      have e65 : decide ((65 : Int) ≤ a2) = true := decide_eq_true (by omega)
                      have e48 : decide ((48 : Int) ≤ a2) = true := decide_eq_true (by omega)
                      have e122 : decide (a2 ≤ (122 : Int)) = true := decide_eq_true (by omega)
                      have e90 : decide (a2 ≤ (90 : Int)) = false := decide_eq_false (by omega)
                      have e57 : decide (a2 ≤ (57 : Int)) = false := decide_eq_false (by omega)
                      have e95 : decide (a2 = (95 : Int)) = true := decide_eq_true (by omega)
                      have g95 : (a2 == (95 : Int)) = true := by rw [beq_iff_eq]; omega
                      have ej : decide ((0 : Int) < (j : Int)) = true := decide_eq_true (by omega)
                      have gj : decide (0 < j) = true := decide_eq_true (by omega)
                      have hm : mayN a2 j = true := decide_eq_true (by omega)
                      rw [hm] at hq3
                      have hk : keyN T.toList = false := by unfold keyN; simp only [f1, f2, f3, f4, f5, f6]; rfl
                      rw [hk] at hq3
                      replace hq3 : q3 = true := hq3
                      subst hq3
                      clear hm hk HK4 hh hp0 hp1 hb0 hb1 h0 hs hT hj0 hj
                      (try clear hbv)
                      (try clear hi)
                      go_wp2_with (first | (go_at_call 16; (first | (with_reducible refine (stream_IsName.calls _ x9_5 true _ ?side1 e1).mono ?_) | (with_reducible refine (stream_IsName.calls _ x11_2 false _ ?side1 e2).mono ?_) | (with_reducible refine (stream_IsName.calls _ T true _ ?side1 e3).mono ?_) | (with_reducible refine (stream_IsName.calls _ ((⟨#[53]⟩ : ByteArray) ++ x9_5) false _ ?side1 e4).mono ?_)); (case side1 => exact Glob.below HG.out HB.out); rintro e w8 ⟨rfl, hb⟩; have n0_ := Aside0.mk (HB.out.trans (hb.mono HB.out.size)); clear HB hb; have HB := n0_; clear n0_))
                      go_ret
                      exact ⟨rfl, HB.out⟩
                  · rcases Nat.eq_zero_or_pos j with hj0 | hj0
                    · skip
                      have e97 : decide ((97 : Int) ≤ a2) = false := decide_eq_false (by omega)
                      have e65 : decide ((65 : Int) ≤ a2) = true := decide_eq_true (by omega)
                      have e48 : decide ((48 : Int) ≤ a2) = true := decide_eq_true (by omega)
                      have e122 : decide (a2 ≤ (122 : Int)) = true := decide_eq_true (by omega)
                      have e90 : decide (a2 ≤ (90 : Int)) = false := decide_eq_false (by omega)
                      have e57 : decide (a2 ≤ (57 : Int)) = false := decide_eq_false (by omega)
                      have e95 : decide (a2 = (95 : Int)) = false := decide_eq_false (by omega)
                      have g95 : (a2 == (95 : Int)) = false := by rw [beq_eq_false_iff_ne]; omega
                      have ej : decide ((0 : Int) < (j : Int)) = false := decide_eq_false (by omega)
                      have gj : decide (0 < j) = false := decide_eq_false (by omega)
                      have hm : mayN a2 j = false := decide_eq_false (by omega)
                      rw [hm] at hq3
                      have hk : keyN T.toList = false := by unfold keyN; simp only [f1, f2, f3, f4, f5, f6]; rfl
                      rw [hk] at hq3
                      replace hq3 : q3 = false := hq3
                      subst hq3
                      clear hm hk HK4 hh hp0 hp1 hb0 hb1 h0 hs hT hj0 hj
                      (try clear hbv)
                      (try clear hi)
                      go_wp2_with (first | (go_at_call 16; (first | (with_reducible refine (stream_IsName.calls _ x9_5 true _ ?side1 e1).mono ?_) | (with_reducible refine (stream_IsName.calls _ x11_2 false _ ?side1 e2).mono ?_) | (with_reducible refine (stream_IsName.calls _ T false _ ?side1 e3).mono ?_) | (with_reducible refine (stream_IsName.calls _ ((⟨#[53]⟩ : ByteArray) ++ x9_5) false _ ?side1 e4).mono ?_)); (case side1 => exact Glob.below HG.out HB.out); rintro e w8 ⟨rfl, hb⟩; have n0_ := Aside0.mk (HB.out.trans (hb.mono HB.out.size)); clear HB hb; have HB := n0_; clear n0_))
                      go_ret
                      exact ⟨rfl, HB.out⟩
                    · skip
                      have e97 : decide ((97 : Int) ≤ a2) = false := decide_eq_false (by omega)
                      have e65 : decide ((65 : Int) ≤ a2) = true := decide_eq_true (by omega)
                      have e48 : decide ((48 : Int) ≤ a2) = true := decide_eq_true (by omega)
                      have e122 : decide (a2 ≤ (122 : Int)) = true := decide_eq_true (by omega)
                      have e90 : decide (a2 ≤ (90 : Int)) = false := decide_eq_false (by omega)
                      have e57 : decide (a2 ≤ (57 : Int)) = false := decide_eq_false (by omega)
                      have e95 : decide (a2 = (95 : Int)) = false := decide_eq_false (by omega)
                      have g95 : (a2 == (95 : Int)) = false := by rw [beq_eq_false_iff_ne]; omega
                      have ej : decide ((0 : Int) < (j : Int)) = true := decide_eq_true (by omega)
                      have gj : decide (0 < j) = true := decide_eq_true (by omega)
                      have hm : mayN a2 j = false := decide_eq_false (by omega)
                      rw [hm] at hq3
                      have hk : keyN T.toList = false := by unfold keyN; simp only [f1, f2, f3, f4, f5, f6]; rfl
                      rw [hk] at hq3
                      replace hq3 : q3 = false := hq3
                      subst hq3
                      clear hm hk HK4 hh hp0 hp1 hb0 hb1 h0 hs hT hj0 hj
                      (try clear hbv)
                      (try clear hi)
                      go_wp2_with (first | (go_at_call 16; (first | (with_reducible refine (stream_IsName.calls _ x9_5 true _ ?side1 e1).mono ?_) | (with_reducible refine (stream_IsName.calls _ x11_2 false _ ?side1 e2).mono ?_) | (with_reducible refine (stream_IsName.calls _ T false _ ?side1 e3).mono ?_) | (with_reducible refine (stream_IsName.calls _ ((⟨#[53]⟩ : ByteArray) ++ x9_5) false _ ?side1 e4).mono ?_)); (case side1 => exact Glob.below HG.out HB.out); rintro e w8 ⟨rfl, hb⟩; have n0_ := Aside0.mk (HB.out.trans (hb.mono HB.out.size)); clear HB hb; have HB := n0_; clear n0_))
                      go_ret
                      exact ⟨rfl, HB.out⟩
                  · rcases Nat.eq_zero_or_pos j with hj0 | hj0
                    · skip
                      have e97 : decide ((97 : Int) ≤ a2) = true := decide_eq_true (by omega)
                      have e65 : decide ((65 : Int) ≤ a2) = true := decide_eq_true (by omega)
                      have e48 : decide ((48 : Int) ≤ a2) = true := decide_eq_true (by omega)
                      have e122 : decide (a2 ≤ (122 : Int)) = true := decide_eq_true (by omega)
                      have e90 : decide (a2 ≤ (90 : Int)) = false := decide_eq_false (by omega)
                      have e57 : decide (a2 ≤ (57 : Int)) = false := decide_eq_false (by omega)
                      have e95 : decide (a2 = (95 : Int)) = false := decide_eq_false (by omega)
                      have g95 : (a2 == (95 : Int)) = false := by rw [beq_eq_false_iff_ne]; omega
                      have ej : decide ((0 : Int) < (j : Int)) = false := decide_eq_false (by omega)
                      have gj : decide (0 < j) = false := decide_eq_false (by omega)
                      have hm : mayN a2 j = true := decide_eq_true (by omega)
                      rw [hm] at hq3
                      have hk : keyN T.toList = false := by unfold keyN; simp only [f1, f2, f3, f4, f5, f6]; rfl
                      rw [hk] at hq3
                      replace hq3 : q3 = true := hq3
                      subst hq3
                      clear hm hk HK4 hh hp0 hp1 hb0 hb1 h0 hs hT hj0 hj
                      (try clear hbv)
                      (try clear hi)
                      go_wp2_with (first | (go_at_call 16; (first | (with_reducible refine (stream_IsName.calls _ x9_5 true _ ?side1 e1).mono ?_) | (with_reducible refine (stream_IsName.calls _ x11_2 false _ ?side1 e2).mono ?_) | (with_reducible refine (stream_IsName.calls _ T true _ ?side1 e3).mono ?_) | (with_reducible refine (stream_IsName.calls _ ((⟨#[53]⟩ : ByteArray) ++ x9_5) false _ ?side1 e4).mono ?_)); (case side1 => exact Glob.below HG.out HB.out); rintro e w8 ⟨rfl, hb⟩; have n0_ := Aside0.mk (HB.out.trans (hb.mono HB.out.size)); clear HB hb; have HB := n0_; clear n0_))
                      go_ret
                      exact ⟨rfl, HB.out⟩
                    · skip
                      have e97 : decide ((97 : Int) ≤ a2) = true := decide_eq_true (by omega)
                      have e65 : decide ((65 : Int) ≤ a2) = true := decide_eq_true (by omega)
                      have e48 : decide ((48 : Int) ≤ a2) = true := decide_eq_true (by omega)
                      have e122 : decide (a2 ≤ (122 : Int)) = true := decide_eq_true (by omega)
                      have e90 : decide (a2 ≤ (90 : Int)) = false := decide_eq_false (by omega)
                      have e57 : decide (a2 ≤ (57 : Int)) = false := decide_eq_false (by omega)
                      have e95 : decide (a2 = (95 : Int)) = false := decide_eq_false (by omega)
                      have g95 : (a2 == (95 : Int)) = false := by rw [beq_eq_false_iff_ne]; omega
                      have ej : decide ((0 : Int) < (j : Int)) = true := decide_eq_true (by omega)
                      have gj : decide (0 < j) = true := decide_eq_true (by omega)
                      have hm : mayN a2 j = true := decide_eq_true (by omega)
                      rw [hm] at hq3
                      have hk : keyN T.toList = false := by unfold keyN; simp only [f1, f2, f3, f4, f5, f6]; rfl
                      rw [hk] at hq3
                      replace hq3 : q3 = true := hq3
                      subst hq3
                      clear hm hk HK4 hh hp0 hp1 hb0 hb1 h0 hs hT hj0 hj
                      (try clear hbv)
                      (try clear hi)
                      go_wp2_with (first | (go_at_call 16; (first | (with_reducible refine (stream_IsName.calls _ x9_5 true _ ?side1 e1).mono ?_) | (with_reducible refine (stream_IsName.calls _ x11_2 false _ ?side1 e2).mono ?_) | (with_reducible refine (stream_IsName.calls _ T true _ ?side1 e3).mono ?_) | (with_reducible refine (stream_IsName.calls _ ((⟨#[53]⟩ : ByteArray) ++ x9_5) false _ ?side1 e4).mono ?_)); (case side1 => exact Glob.below HG.out HB.out); rintro e w8 ⟨rfl, hb⟩; have n0_ := Aside0.mk (HB.out.trans (hb.mono HB.out.size)); clear HB hb; have HB := n0_; clear n0_))
                      go_ret
                      exact ⟨rfl, HB.out⟩
                  · rcases Nat.eq_zero_or_pos j with hj0 | hj0
                    · skip
                      have e97 : decide ((97 : Int) ≤ a2) = true := decide_eq_true (by omega)
                      have e65 : decide ((65 : Int) ≤ a2) = true := decide_eq_true (by omega)
                      have e48 : decide ((48 : Int) ≤ a2) = true := decide_eq_true (by omega)
                      have e122 : decide (a2 ≤ (122 : Int)) = false := decide_eq_false (by omega)
                      have e90 : decide (a2 ≤ (90 : Int)) = false := decide_eq_false (by omega)
                      have e57 : decide (a2 ≤ (57 : Int)) = false := decide_eq_false (by omega)
                      have e95 : decide (a2 = (95 : Int)) = false := decide_eq_false (by omega)
                      have g95 : (a2 == (95 : Int)) = false := by rw [beq_eq_false_iff_ne]; omega
                      have ej : decide ((0 : Int) < (j : Int)) = false := decide_eq_false (by omega)
                      have gj : decide (0 < j) = false := decide_eq_false (by omega)
                      have hm : mayN a2 j = false := decide_eq_false (by omega)
                      rw [hm] at hq3
                      have hk : keyN T.toList = false := by unfold keyN; simp only [f1, f2, f3, f4, f5, f6]; rfl
                      rw [hk] at hq3
                      replace hq3 : q3 = false := hq3
                      subst hq3
                      clear hm hk HK4 hh hp0 hp1 hb0 hb1 h0 hs hT hj0 hj
                      (try clear hbv)
                      (try clear hi)
                      go_wp2_with (first | (go_at_call 16; (first | (with_reducible refine (stream_IsName.calls _ x9_5 true _ ?side1 e1).mono ?_) | (with_reducible refine (stream_IsName.calls _ x11_2 false _ ?side1 e2).mono ?_) | (with_reducible refine (stream_IsName.calls _ T false _ ?side1 e3).mono ?_) | (with_reducible refine (stream_IsName.calls _ ((⟨#[53]⟩ : ByteArray) ++ x9_5) false _ ?side1 e4).mono ?_)); (case side1 => exact Glob.below HG.out HB.out); rintro e w8 ⟨rfl, hb⟩; have n0_ := Aside0.mk (HB.out.trans (hb.mono HB.out.size)); clear HB hb; have HB := n0_; clear n0_))
                      go_ret
                      exact ⟨rfl, HB.out⟩
                    · skip
                      have e97 : decide ((97 : Int) ≤ a2) = true := decide_eq_true (by omega)
                      have e65 : decide ((65 : Int) ≤ a2) = true := decide_eq_true (by omega)
                      have e48 : decide ((48 : Int) ≤ a2) = true := decide_eq_true (by omega)
                      have e122 : decide (a2 ≤ (122 : Int)) = false := decide_eq_false (by omega)
                      have e90 : decide (a2 ≤ (90 : Int)) = false := decide_eq_false (by omega)
                      have e57 : decide (a2 ≤ (57 : Int)) = false := decide_eq_false (by omega)
                      have e95 : decide (a2 = (95 : Int)) = false := decide_eq_false (by omega)
                      have g95 : (a2 == (95 : Int)) = false := by rw [beq_eq_false_iff_ne]; omega
                      have ej : decide ((0 : Int) < (j : Int)) = true := decide_eq_true (by omega)
                      have gj : decide (0 < j) = true := decide_eq_true (by omega)
                      have hm : mayN a2 j = false := decide_eq_false (by omega)
                      rw [hm] at hq3
                      have hk : keyN T.toList = false := by unfold keyN; simp only [f1, f2, f3, f4, f5, f6]; rfl
                      rw [hk] at hq3
                      replace hq3 : q3 = false := hq3
                      subst hq3
                      clear hm hk HK4 hh hp0 hp1 hb0 hb1 h0 hs hT hj0 hj
                      (try clear hbv)
                      (try clear hi)
                      go_wp2_with (first | (go_at_call 16; (first | (with_reducible refine (stream_IsName.calls _ x9_5 true _ ?side1 e1).mono ?_) | (with_reducible refine (stream_IsName.calls _ x11_2 false _ ?side1 e2).mono ?_) | (with_reducible refine (stream_IsName.calls _ T false _ ?side1 e3).mono ?_) | (with_reducible refine (stream_IsName.calls _ ((⟨#[53]⟩ : ByteArray) ++ x9_5) false _ ?side1 e4).mono ?_)); (case side1 => exact Glob.below HG.out HB.out); rintro e w8 ⟨rfl, hb⟩; have n0_ := Aside0.mk (HB.out.trans (hb.mono HB.out.size)); clear HB hb; have HB := n0_; clear n0_))
                      go_ret
                      exact ⟨rfl, HB.out⟩
              · rw [if_neg hok] at H; exact absurd H (by simp)
  · replace c5 := Bool.eq_false_iff.mpr c5
    subst c5
    have H1 : (some false) = some r := by rw [if_neg (show ¬ (false = true) by decide)] at H; exact H
    clear H
    have H := H1
    clear H1
    obtain rfl := Option.some.inj H
    go_enter Tryd.func4, Tryd.ntmps4
    go_wp2_with (first | (go_at_call 9; (with_reducible refine (marshallinglaw03_examples.calls  false _ ?side1 A4.out).mono ?_); (case side1 => exact Glob.below HG.out (by repeat (first | (with_reducible first | exact HB.out | apply below_alloc | apply pw_below_drewN | apply below_drew1) | exact HB.out))); rintro e w18 ⟨rfl, hb⟩; have n0_ := Aside0.mk (below_step (by repeat (first | (with_reducible first | exact HB.out | apply below_alloc | apply pw_below_drewN | apply below_drew1) | exact HB.out)) hb); clear HB; have HB := n0_; clear n0_; (try clear hb); (try clear hb2); (try clear hk); (try clear hi)))
    repeat (go_quiet (first | (go_at_call 9; (with_reducible refine (marshallinglaw03_examples.calls  false _ ?side1 A4.out).mono ?_); (case side1 => exact Glob.below HG.out (by repeat (first | (with_reducible first | exact HB.out | apply below_alloc | apply pw_below_drewN | apply below_drew1) | exact HB.out))); rintro e w18 ⟨rfl, hb⟩; have n0_ := Aside0.mk (below_step (by repeat (first | (with_reducible first | exact HB.out | apply below_alloc | apply pw_below_drewN | apply below_drew1) | exact HB.out)) hb); clear HB; have HB := n0_; clear n0_; (try clear hb); (try clear hb2); (try clear hk); (try clear hi))); try go_wp2_with (first | (go_at_call 9; (with_reducible refine (marshallinglaw03_examples.calls  false _ ?side1 A4.out).mono ?_); (case side1 => exact Glob.below HG.out (by repeat (first | (with_reducible first | exact HB.out | apply below_alloc | apply pw_below_drewN | apply below_drew1) | exact HB.out))); rintro e w18 ⟨rfl, hb⟩; have n0_ := Aside0.mk (below_step (by repeat (first | (with_reducible first | exact HB.out | apply below_alloc | apply pw_below_drewN | apply below_drew1) | exact HB.out)) hb); clear HB; have HB := n0_; clear n0_; (try clear hb); (try clear hb2); (try clear hk); (try clear hi))))
    go_ret
    exact ⟨by first | rfl | (simp [errW_none, errW_some] <;> rfl) | (simp [*, errW_none, errW_some] <;> rfl), by repeat (first | (with_reducible first | exact HB.out | apply below_alloc | apply pw_below_drewN | apply below_drew1) | exact HB.out)⟩

end Go.Proofs.YtcfdnicnjhilkaaDoor.G
