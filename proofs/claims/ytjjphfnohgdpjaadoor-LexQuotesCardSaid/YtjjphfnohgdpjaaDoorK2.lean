-- Written by this session's program mprint.py over the kit's printer (with hand-written contracts laid in). Not trusted: Lean checks it.
import Derived.Test.YtjjphfnohgdpjaaDoorK0
namespace Go.Proofs.YtjjphfnohgdpjaaDoor.K
open Go.RowKit Go.Proofs.YtjjphfnohgdpjaaDoorW.PrintWords Go.Proofs.YtjjphfnohgdpjaaDoorW.PrintLast Go.Proofs.YtjjphfnohgdpjaaDoorW.PrintMore
attribute [local go_sem] max2_int min2_int max_two min_two max_three min_three max_four min_four   -- for this text's walks alone
set_option linter.unusedVariables false
set_option linter.unusedSimpArgs false

/-! ### strings_IndexByte: function 24 -/

def strings_IndexByte.f (a0 : ByteArray) (a1 : Int) : Option Int := some (Lib.indexByte a0.data.toList a1.toNat.toUInt8)
theorem strings_IndexByte.calls (a0 : ByteArray) (a1 : Int) (r : Int) (w : World) (h : strings_IndexByte.f a0 a1 = some r) :
    Calls Tryd.prog 24 #[.string a0, .int .u8 a1] w fun e w' => e = .returned (.int .i64 r) ∧ Drawn0 w w' := by
  unfold strings_IndexByte.f at h
  obtain rfl := Option.some.inj h
  refine (Tryd.strings_IndexByte a0 a1 w).mono ?_
  rintro e w' ⟨rfl, rfl⟩
  exact ⟨rfl, Drawn0.refl _⟩

/-! ### lex_span: function 18 -/
def lex_span.l0 : Nat → ByteArray → ByteArray → Int → Option (Int)
  | 0, _, _, _ => none
  | k + 1, x0, x1, x5 => if x5 < (x0.size : Int) then (if 0 ≤ x5 then ((strings_IndexByte.f x1 (bt x0 x5)).bind fun t101 => (if t101 ≥ 0 then (lex_span.l0 k x0 x1 (wrap64 (x5 + 1))) else (some x5))) else (none)) else (some x5)
def lex_span.f (k : Nat) (a0 : ByteArray) (a1 : ByteArray) : Option (Int) := lex_span.l0 k a0 a1 0
theorem lex_span.mono_l : ∀ k, (∀ y0 y1 y2, LeO (lex_span.l0 k y0 y1 y2) (lex_span.l0 (k + 1) y0 y1 y2))
  | 0 => fun _ _ _ r h => by simp [lex_span.l0] at h
  | k + 1 => by
    have ih0 := lex_span.mono_l k
    · intro y0 y1 y2
      unfold lex_span.l0
      repeat' first
      | (with_reducible exact ih0 _ _ _)
      | (with_reducible exact LeO.refl _)
      | (with_reducible exact LeO.none _)
      | (with_reducible refine LeO.ite ?_ ?_)
      | (with_reducible refine LeO.bind ?_ (fun _ => ?_))
      | exact ih0 _ _ _
      | exact LeO.none _
      | refine LeO.ite ?_ ?_
      | refine LeO.bind ?_ (fun _ => ?_)
theorem lex_span.mono : ∀ a0 a1 k, LeO (lex_span.f k a0 a1) (lex_span.f (k + 1) a0 a1) := by
  intro a0 a1 k
  have ih0 := lex_span.mono_l k
  unfold lex_span.f
  repeat' first
      | (with_reducible exact ih0 _ _ _)
      | (with_reducible exact LeO.refl _)
      | (with_reducible exact LeO.none _)
      | (with_reducible refine LeO.ite ?_ ?_)
      | (with_reducible refine LeO.bind ?_ (fun _ => ?_))
      | exact ih0 _ _ _
      | exact LeO.none _
      | refine LeO.ite ?_ ?_
      | refine LeO.bind ?_ (fun _ => ?_)
set_option maxHeartbeats 8000000 in
set_option maxRecDepth 100000 in
theorem lex_span.calls (k : Nat) (a0 : ByteArray) (a1 : ByteArray) (r : Int) (w : World) (h : lex_span.f k a0 a1 = some r) :
    Calls Tryd.prog 18 #[.string a0, .string a1] w fun e w' => e = .returned (.int .i64 r) ∧ Drawn0 w w' := by
  have H : (lex_span.l0 k a0 a1 0) = some r := h
  clear h
  have H' := Aside0.mk H
  clear H
  go_enter Tryd.func18, Tryd.ntmps18
  go_wp2
  go_loopg [5] k (fun kq v5 w' => ∃ (x5_1 : Int), v5 = .int .i64 x5_1 ∧ Aside0 (lex_span.l0 kq a0 a1 x5_1 = some r) ∧ Aside0 (kq ≤ k) ∧ Drawn0 w w')
  case atStart => exact ⟨(0), (by first | rfl | (simp; done) | (simp [*]; done)), H', ⟨Nat.le_refl _⟩, by repeat (first | exact Drawn0.refl _ | apply Drawn0.step)⟩
  case round =>
    clear H'
    try clear c1
    try clear p2
    obtain ⟨x5_1, rfl, HA, HK1, ⟨m1, rfl⟩⟩ := hrel
    cases gk with
    | zero => exact absurd HA.out (by simp [lex_span.l0])
    | succ k1 =>
      have H := HA.out
      clear HA
      simp only [lex_span.l0] at H
      by_cases c3 : x5_1 < (a0.size : Int)
      · rw [if_pos c3] at H
        have c3b0 : decide (x5_1 < (a0.size : Int)) = true := decide_eq_true c3
        clear c3
        by_cases c4 : 0 ≤ x5_1
        · rw [if_pos c4] at H
          have c4b0 : decide (0 ≤ x5_1) = true := decide_eq_true c4
          clear c4
          replace H := Option.bind_eq_some_iff.mp H
          obtain ⟨t101, A60, H⟩ := H
          replace H : (if t101 ≥ 0 then (lex_span.l0 k1 a0 a1 (wrap64 (x5_1 + 1))) else (some x5_1)) = some r := H
          have A6 := Aside0.mk A60
          clear A60
          by_cases c7 : t101 ≥ 0
          · rw [if_pos c7] at H
            have c7b0 : decide (0 ≤ t101) = true := decide_eq_true c7
            clear c7
            have H' := Aside0.mk H
            clear H
            have p5 : 0 ≤ (x5_1 : Int) := of_decide_eq_true (by first | (with_reducible assumption) | assumption)
            have q5 : x5_1 < (a0.size : Int) := of_decide_eq_true (by first | (with_reducible assumption) | assumption)
            have hx5 := bt_at a0 x5_1
            replace p5 := eq_true p5
            replace q5 := eq_true q5
            go_wp2_with (first | (go_at_call 24; (with_reducible refine (strings_IndexByte.calls a1 (bt a0 x5_1) t101 _ A6.out).mono ?_); rintro e w' ⟨rfl, ⟨nd, rfl⟩⟩))
            go_roundg k1
            case measure => have := HK1.out; omega
            case rel => exact ⟨(wrap64 (x5_1 + 1)), (by first | rfl | (simp; done) | (simp [*]; done)), H', ⟨by have := HK1.out; omega⟩, by repeat (first | exact Drawn0.refl _ | apply Drawn0.step)⟩
          · rw [if_neg c7] at H
            have c7b0 : decide (0 ≤ t101) = false := decide_eq_false c7
            clear c7
            obtain rfl := Option.some.inj H
            have p5 : 0 ≤ (x5_1 : Int) := of_decide_eq_true (by first | (with_reducible assumption) | assumption)
            have q5 : x5_1 < (a0.size : Int) := of_decide_eq_true (by first | (with_reducible assumption) | assumption)
            have hx5 := bt_at a0 x5_1
            replace p5 := eq_true p5
            replace q5 := eq_true q5
            go_wp2_with (first | (go_at_call 24; (with_reducible refine (strings_IndexByte.calls a1 (bt a0 x5_1) t101 _ A6.out).mono ?_); rintro e w' ⟨rfl, ⟨nd, rfl⟩⟩))
            go_ret
            exact ⟨by first | rfl | (simp; done) | (simp [*]; done), by repeat (first | exact Drawn0.refl _ | apply Drawn0.step)⟩
        · rw [if_neg c4] at H
          exact absurd H (by simp)
      · rw [if_neg c3] at H
        have c3b0 : decide (x5_1 < (a0.size : Int)) = false := decide_eq_false c3
        clear c3
        obtain rfl := Option.some.inj H
        go_wp2
        go_ret
        exact ⟨by first | rfl | (simp; done) | (simp [*]; done), by repeat (first | exact Drawn0.refl _ | apply Drawn0.step)⟩

/-! ### stream_cutLeft: function 46 -/

def stream_cutLeft.f (a0 a1 : ByteArray) : Option ByteArray := if a1.data.toList.all (fun b => decide (b.toNat < 128)) = true then some ⟨(a0.data.toList.dropWhile (fun c => a1.data.toList.contains c)).toArray⟩ else none
set_option maxHeartbeats 4000000 in
set_option maxRecDepth 100000 in
theorem stream_cutLeft.calls (a0 : ByteArray) (a1 : ByteArray) (r : ByteArray) (w : World) (h : stream_cutLeft.f a0 a1 = some r) :
    Calls Tryd.prog 46 #[.string a0, .string a1] w fun e w' => e = .returned (.string r) ∧ Below w.heap.size w w' := by
  unfold stream_cutLeft.f at h
  split at h
  · rename_i hset
    obtain hr := Option.some.inj h
    clear h
    have hasc : ∀ (j : Nat) (hj : j < a1.size), (a1[j]'hj).toNat < 128 := fun j hj => of_decide_eq_true (List.all_eq_true.1 hset _ (List.mem_of_getElem? (get_data a1 j hj)))
    have HA := Aside0.mk hasc
    have HR := Aside0.mk hr
    clear hset hr hasc
    go_enter Tryd.func46, Tryd.ntmps46
    go_wp2
    go_loopw [5] (fun _ wr => ∃ pos : Nat, Aside0 (wr.heap[w.heap.size]? = some (.stringIter a0 pos)) ∧ Aside0 (Below w.heap.size w wr) ∧ Aside0 (∀ j y, j < pos → a0.data.toList[j]? = some y → a1.data.toList.contains y = true)) (fun _ wr => a0.size - wr.iterPos w.heap.size)
    case atStart => exact ⟨0, ⟨World.iter_heap w a0 0⟩, ⟨(Below.refl _ w).alloc (Nat.le_refl _) _⟩, ⟨fun j y hj => absurd hj (Nat.not_lt_zero _)⟩⟩
    case round =>
      obtain ⟨pos, HI, HB, HP⟩ := hrel
      obtain ⟨wo, rfl⟩ : ∃ wo : World, wo = wr := ⟨_, rfl⟩
      by_cases hp : pos < a0.size
      · have hwd : 1 ≤ (Utf8.decode a0 pos).2 := by
          by_cases ha : (a0[pos]'hp).toNat < 128
          · rw [decode_ascii a0 pos hp ha]; exact Nat.le_refl _
          · exact (decode_high a0 pos hp (by omega)).2
        have hsz := HB.out.size
        have hlt := (Array.getElem?_eq_some_iff.1 HI.out).1
        obtain ⟨W1, hnx, HI1, HB1⟩ : ∃ W1, (∀ ty, (Instr.next (.pointer (some ⟨w.heap.size, 0, none⟩)) true ty).run Tryd.prog wo = .ok (.tuple #[.bool true, .int .i64 pos, .int .i32 (Utf8.decode a0 pos).1]) W1) ∧ Aside0 (W1.heap[w.heap.size]? = some (.stringIter a0 (pos + (Utf8.decode a0 pos).2))) ∧ Aside0 (Below w.heap.size w W1) :=
          ⟨_, fun ty => Lib.run_next_any_at wo w.heap.size a0 pos ty HI.out hp, ⟨Lib.iterAt_heap wo w.heap.size a0 pos _ HI.out⟩, ⟨Lib.below_iterAt HB.out (Nat.le_refl _) _ _⟩⟩
        have hlt1 := (Array.getElem?_eq_some_iff.1 HI1.out).1
        have hR1 : Aside0 ((Utf8.decode a0 pos).1 = (a0[pos]'hp).toNat ∧ (Utf8.decode a0 pos).2 = 1 ∨ 128 ≤ (Utf8.decode a0 pos).1 ∧ 128 ≤ (a0[pos]'hp).toNat) := ⟨by
          by_cases ha : (a0[pos]'hp).toNat < 128
          · exact .inl (by rw [decode_ascii a0 pos hp ha]; exact ⟨rfl, rfl⟩)
          · exact .inr ⟨(decode_high a0 pos hp (by omega)).1, by omega⟩⟩
        generalize (Utf8.decode a0 pos).1 = R at *
        generalize (Utf8.decode a0 pos).2 = wd at *
        go_wp2
        go_loopw [7] (fun inn wi => ∃ k : Nat, k ≤ a1.size ∧ Aside0 (wi.heap[W1.heap.size]? = some (.stringIter a1 k)) ∧ Aside0 (wi.heap[w.heap.size]? = some (.stringIter a0 (pos + wd))) ∧ Aside0 (Below w.heap.size w wi) ∧ inn = .bool (among a1 k R)) (fun _ wi => a1.size - wi.iterPos W1.heap.size)
        case atStart => exact ⟨0, Nat.zero_le _, ⟨World.iter_heap W1 a1 0⟩, ⟨(Below.heap_alloc W1 _ _ hlt1).trans HI1.out⟩, ⟨HB1.out.alloc HB1.out.size _⟩, rfl⟩
        case round =>
          obtain ⟨k, hk, HJ, HI2, HB2, rfl⟩ := hrel
          by_cases hk1 : k < a1.size
          · obtain ⟨W2, hnx2, HJ3, HI3, HB3⟩ : ∃ W2, (∀ ty, (Instr.next (.pointer (some ⟨W1.heap.size, 0, none⟩)) true ty).run Tryd.prog wr = .ok (.tuple #[.bool true, .int .i64 k, .int .i32 ((a1[k]'hk1).toNat : Int)]) W2) ∧ Aside0 (W2.heap[W1.heap.size]? = some (.stringIter a1 (k + 1))) ∧ Aside0 (W2.heap[w.heap.size]? = some (.stringIter a0 (pos + wd))) ∧ Aside0 (Below w.heap.size w W2) := by
              have hd := decode_ascii a1 k hk1 (HA.out k hk1)
              refine ⟨wr.iterAt W1.heap.size a1 (k + 1), fun ty => ?_, ⟨Lib.iterAt_heap wr W1.heap.size a1 k _ HJ.out⟩, ⟨(Lib.iterAt_other wr W1.heap.size w.heap.size a1 _ (by omega)).trans HI2.out⟩, ⟨Lib.below_iterAt HB2.out (by omega) _ _⟩⟩
              have := Lib.run_next_any_at (P := Tryd.prog) wr W1.heap.size a1 k ty HJ.out hk1
              rw [hd] at this
              exact this
            have HS := Aside0.mk (among_succ a1 k R hk1)
            have hm2 : W2.iterPos W1.heap.size = k + 1 := by simp only [World.iterPos, HJ3.out]
            have hm1 : wr.iterPos W1.heap.size = k := by simp only [World.iterPos, HJ.out]
            have HM := Aside0.mk (And.intro hm1 hm2)
            clear hm1 hm2
            generalize (a1[k]'hk1).toNat = b at *
            cases hq : among a1 k R with
            | true =>
              have HQ := Aside0.mk hq
              clear hq
              go_wp2
              go_roundw
              case rel => exact ⟨k + 1, by omega, HJ3, HI3, HB3, by rw [HS.out, HQ.out]; rfl⟩
              case measure => rw [HM.out.1, HM.out.2]; omega
            | false =>
              have HQ := Aside0.mk hq
              clear hq
              by_cases hb : R = b
              · have hb1 : ((R : Int) == (b : Int)) = true := by simp [hb]
                have HBB := Aside0.mk hb
                clear hb
                go_wp2
                go_roundw
                case rel => exact ⟨k + 1, by omega, HJ3, HI3, HB3, by rw [HS.out, HQ.out, HBB.out]; simp⟩
                case measure => rw [HM.out.1, HM.out.2]; omega
              · have hb1 : ((R : Int) == (b : Int)) = false := by simp; omega
                have HBB := Aside0.mk hb
                clear hb
                go_wp2
                go_roundw
                case rel => exact ⟨k + 1, by omega, HJ3, HI3, HB3, by rw [HS.out, HQ.out]; simp [HBB.out]⟩
                case measure => rw [HM.out.1, HM.out.2]; omega
          · have hnx2 : ∀ ty, (Instr.next (.pointer (some ⟨W1.heap.size, 0, none⟩)) true ty).run Tryd.prog wr = _ := fun ty => Lib.run_next_end_at wr W1.heap.size a1 k ty HJ.out hk1
            obtain rfl : k = a1.size := by omega
            have HS := Aside0.mk (among_all a1 a1.size R (Nat.le_refl _))
            cases hq : among a1 a1.size R with
            | true =>
              have HQ := Aside0.mk hq
              clear hq
              go_wp2
              go_roundw
              case rel =>
                refine ⟨pos + wd, HI2, HB2, ⟨fun j y hj hy => ?_⟩⟩
                have hany := HS.out.symm.trans HQ.out
                rcases hR1.out with ⟨h1, h2⟩ | ⟨h1, h2⟩
                · by_cases e : j = pos
                  · subst e
                    rw [get_data a0 j hp] at hy
                    cases hy
                    rw [h1, among_byte] at hany
                    exact hany
                  · exact HP.out j y (by omega) hy
                · obtain ⟨b, hb, e⟩ := List.any_eq_true.1 hany
                  obtain ⟨i, hi⟩ := List.mem_iff_getElem?.1 hb
                  have hi2 : i < a1.size := by have := (List.getElem?_eq_some_iff.1 hi).1; simpa using this
                  rw [get_data a1 i hi2] at hi
                  cases hi
                  have := HA.out i hi2
                  have e2 := beq_iff_eq.1 e
                  omega
              case measure =>
                have m1 : wo.iterPos w.heap.size = pos := by simp only [World.iterPos, HI.out]
                have m2 : wr.iterPos w.heap.size = pos + wd := by simp only [World.iterPos, HI2.out]
                rw [m1, m2]
                omega
            | false =>
              have HQ := Aside0.mk hq
              clear hq
              go_wp2
              go_ret
              refine ⟨?_, HB2.out⟩
              rw [← HR.out, drop_hit _ _ pos _ (get_data a0 pos hp) ?_ HP.out]
              · show Ending.returned (.string (a0.extract pos a0.size)) = _
                rw [extract_drop]
              · have hany := HS.out.symm.trans HQ.out
                rw [Bool.eq_false_iff]
                intro hc
                rcases hR1.out with ⟨h1, h2⟩ | ⟨h1, h2⟩
                · rw [h1, among_byte] at hany
                  rw [hany] at hc
                  cases hc
                · obtain ⟨i, hi⟩ := List.mem_iff_getElem?.1 (List.contains_iff_mem.1 hc)
                  have hi2 : i < a1.size := by have := (List.getElem?_eq_some_iff.1 hi).1; simpa using this
                  rw [get_data a1 i hi2] at hi
                  have e := Option.some.inj hi
                  have := HA.out i hi2
                  rw [e] at this
                  omega
      · have hnx : ∀ ty, (Instr.next (.pointer (some ⟨w.heap.size, 0, none⟩)) true ty).run Tryd.prog wo = _ := fun ty => Lib.run_next_end_at wo w.heap.size a0 pos ty HI.out hp
        go_wp2
        go_ret
        exact ⟨by rw [← HR.out, drop_miss _ _ (fun j y hj => HP.out j y (by have := (List.getElem?_eq_some_iff.1 hj).1; simp at this; omega) hj)]; rfl, HB.out⟩
  · cases h

/-! ### strings_Contains: function 47 -/

def strings_Contains.f (a0 a1 : ByteArray) : Option Bool := if a0.size < 4294967281 then some (Lib.contains a0.data.toList a1.data.toList) else none
theorem strings_Contains.calls (a0 : ByteArray) (a1 : ByteArray) (r : Bool) (w : World) (hG : Glob w) (h : strings_Contains.f a0 a1 = some r) :
    Calls Tryd.prog 47 #[.string a0, .string a1] w fun e w' => e = .returned (.bool r) ∧ Drawn0 w w' := by
  unfold strings_Contains.f at h
  split at h
  · obtain rfl := Option.some.inj h
    obtain ⟨m, hm⟩ := hG.maxLen
    refine (Tryd.strings_Contains a0 a1 m w (by assumption) hm).mono ?_
    rintro e w' ⟨rfl, rfl⟩
    exact ⟨rfl, Drawn0.refl _⟩
  · cases h

end Go.Proofs.YtjjphfnohgdpjaaDoor.K
