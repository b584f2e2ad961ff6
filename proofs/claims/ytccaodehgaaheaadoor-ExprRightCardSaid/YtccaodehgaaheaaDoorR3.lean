-- Written by this session's program mprint.py over the kit's printer (with hand-written contracts laid in). Not trusted: Lean checks it.
import Derived.Test.YtccaodehgaaheaaDoorR0
import Derived.Test.YtccaodehgaaheaaDoorR1
namespace Go.Proofs.YtccaodehgaaheaaDoor.R
open Go.RowKit Go.Proofs.YtccaodehgaaheaaDoorW.PrintWords Go.Proofs.YtccaodehgaaheaaDoorW.PrintLast Go.Proofs.YtccaodehgaaheaaDoorW.PrintMore
attribute [local go_sem] max2_int min2_int max_two min_two max_three min_three max_four min_four   -- for this text's walks alone
set_option linter.unusedVariables false
set_option linter.unusedSimpArgs false

attribute [local go_sem high] eqA23
/-! ### value_Right: function 48 -/
def value_Right.f (a0_0 : Int) (a0_1 : Int) (a0_2 : ByteArray) : Option (Bool) := if a0_0 = 1 then (some (a0_0 == 1 && (a0_2.toList == ([] : List UInt8)))) else (if a0_0 = 2 then (some (a0_0 == 2 && (a0_1 == (Go.bits .and .i64 a0_1 1) && (a0_2.toList == ([] : List UInt8))))) else (if a0_0 = 3 then (if (a0_0 == 3 && (a0_1 == 0)) = true then (some (decide ((a0_2.size : Int) ≤ 64))) else (some false)) else (some false)))
set_option maxHeartbeats 8000000 in
set_option maxRecDepth 100000 in
theorem value_Right.calls (a0_0 : Int) (a0_1 : Int) (a0_2 : ByteArray) (r : Bool) (w : World) (h : value_Right.f a0_0 a0_1 a0_2 = some r) :
    Calls Tryd.prog 48 #[.agg #[.int .i64 a0_0, .int .i64 a0_1, .string a0_2]] w fun e w' => e = .returned (.bool r) ∧ Below w.heap.size w w' := by
  have hu23 := Tryd.underlying23
  have HB := Aside0.mk (Below.refl w.heap.size w)
  have H : (if a0_0 = 1 then (some (a0_0 == 1 && (a0_2.toList == ([] : List UInt8)))) else (if a0_0 = 2 then (some (a0_0 == 2 && (a0_1 == (Go.bits .and .i64 a0_1 1) && (a0_2.toList == ([] : List UInt8))))) else (if a0_0 = 3 then (if (a0_0 == 3 && (a0_1 == 0)) = true then (some (decide ((a0_2.size : Int) ≤ 64))) else (some false)) else (some false)))) = some r := h
  clear h
  by_cases c2 : a0_0 = 1
  · rw [if_pos c2] at H
    have c2b0 : (a0_0 == 1) = true := beq_iff_eq.mpr c2
    have c2b1 : (a0_0 != 1) = false := bne_eq_false_iff_eq.mpr c2
    clear c2
    obtain rfl := Option.some.inj H
    go_enter Tryd.func48, Tryd.ntmps48
    go_wp2_with (first | ((with_reducible refine gate_dst (N := 1) rfl ?_); (try (refine gate_guard (by rfl) ?_; dsimp only)); refine box_event ?hg (N := 1) ?hd (cs := #[.int .i64 a0_0, .int .i64 a0_1, .string a0_2]) (t := 23) ?hr ?_; (case hd => rfl); (case hg => rfl); (case hr => first | (go_simp; done) | (go_simp; rfl)); intro gb101 hg w3 hbox hb; have n0_ := Aside0.mk (below_step (by repeat (first | (with_reducible first | exact HB.out | apply below_alloc | apply pw_below_drewN | apply below_drew1) | exact HB.out)) hb); have n1_ := Aside0.mk (hbox); have n2_ := Aside0.mk ((by rw [hg]; exact (below_size (by repeat (first | (with_reducible first | exact HB.out | apply below_alloc | apply pw_below_drewN | apply below_drew1) | exact HB.out))) : w.heap.size ≤ gb101)); have n3_ := Aside0.mk ((by rw [hg]; exact (below_size (by repeat (first | (with_reducible first | exact HB.out | apply below_alloc | apply pw_below_drewN | apply below_drew1) | exact HB.out))) : w.heap.size ≤ gb101)); clear HB; have HB := n0_; have BK101 := n1_; have GW101 := n2_; have GE101 := n3_; clear n0_ n1_ n2_ n3_; clear hb hbox hg; have hcz4_0 : w3.cell? ⟨gb101, 0, none⟩ = some (.int .i64 a0_0) := (blk_cell BK101.out 0).trans rfl; have hcz4_1 : w3.cell? ⟨gb101, 1, none⟩ = some (.int .i64 a0_1) := (blk_cell BK101.out 1).trans rfl; have hcz4_2 : w3.cell? ⟨gb101, 2, none⟩ = some (.string a0_2) := (blk_cell BK101.out 2).trans rfl; have hfz4_0 := blk_frozen BK101.out 0; have hfz4_1 := blk_frozen BK101.out 1; have hfz4_2 := blk_frozen BK101.out 2))
    go_ret
    exact ⟨by first | rfl | (simp [errW_none, errW_some] <;> rfl) | (simp [*, errW_none, errW_some] <;> rfl), by repeat (first | (with_reducible first | exact HB.out | apply below_alloc | apply pw_below_drewN | apply below_drew1 | refine below_set ?_ GE101.out) | exact HB.out)⟩
  · rw [if_neg c2] at H
    have c2b0 : (a0_0 == 1) = false := beq_eq_false_iff_ne.mpr c2
    have c2b1 : (a0_0 != 1) = true := bne_iff_ne.mpr c2
    by_cases c5 : a0_0 = 2
    · rw [if_pos c5] at H
      have c5b0 : (a0_0 == 2) = true := beq_iff_eq.mpr c5
      have c5b1 : (a0_0 != 2) = false := bne_eq_false_iff_eq.mpr c5
      clear c5
      obtain rfl := Option.some.inj H
      go_enter Tryd.func48, Tryd.ntmps48
      go_wp2_with (first | ((with_reducible refine gate_dst (N := 1) rfl ?_); (try (refine gate_guard (by rfl) ?_; dsimp only)); refine box_event ?hg (N := 1) ?hd (cs := #[.int .i64 a0_0, .int .i64 a0_1, .string a0_2]) (t := 23) ?hr ?_; (case hd => rfl); (case hg => rfl); (case hr => first | (go_simp; done) | (go_simp; rfl)); intro gb101 hg w6 hbox hb; have n0_ := Aside0.mk (below_step (by repeat (first | (with_reducible first | exact HB.out | apply below_alloc | apply pw_below_drewN | apply below_drew1) | exact HB.out)) hb); have n1_ := Aside0.mk (hbox); have n2_ := Aside0.mk ((by rw [hg]; exact (below_size (by repeat (first | (with_reducible first | exact HB.out | apply below_alloc | apply pw_below_drewN | apply below_drew1) | exact HB.out))) : w.heap.size ≤ gb101)); have n3_ := Aside0.mk ((by rw [hg]; exact (below_size (by repeat (first | (with_reducible first | exact HB.out | apply below_alloc | apply pw_below_drewN | apply below_drew1) | exact HB.out))) : w.heap.size ≤ gb101)); clear HB; have HB := n0_; have BK101 := n1_; have GW101 := n2_; have GE101 := n3_; clear n0_ n1_ n2_ n3_; clear hb hbox hg; have hcz7_0 : w6.cell? ⟨gb101, 0, none⟩ = some (.int .i64 a0_0) := (blk_cell BK101.out 0).trans rfl; have hcz7_1 : w6.cell? ⟨gb101, 1, none⟩ = some (.int .i64 a0_1) := (blk_cell BK101.out 1).trans rfl; have hcz7_2 : w6.cell? ⟨gb101, 2, none⟩ = some (.string a0_2) := (blk_cell BK101.out 2).trans rfl; have hfz7_0 := blk_frozen BK101.out 0; have hfz7_1 := blk_frozen BK101.out 1; have hfz7_2 := blk_frozen BK101.out 2))
      go_ret
      exact ⟨by first | rfl | (simp [errW_none, errW_some] <;> rfl) | (simp [*, errW_none, errW_some] <;> rfl), by repeat (first | (with_reducible first | exact HB.out | apply below_alloc | apply pw_below_drewN | apply below_drew1 | refine below_set ?_ GE101.out) | exact HB.out)⟩
    · rw [if_neg c5] at H
      have c5b0 : (a0_0 == 2) = false := beq_eq_false_iff_ne.mpr c5
      have c5b1 : (a0_0 != 2) = true := bne_iff_ne.mpr c5
      by_cases c8 : a0_0 = 3
      · rw [if_pos c8] at H
        have c8b0 : (a0_0 == 3) = true := beq_iff_eq.mpr c8
        have c8b1 : (a0_0 != 3) = false := bne_eq_false_iff_eq.mpr c8
        clear c8
        by_cases c9 : (a0_0 == 3 && (a0_1 == 0)) = true
        · rw [if_pos c9] at H
          have c9b0 : (a0_0 == 3 && (a0_1 == 0)) = true := c9
          have c9b5 : (a0_1 == 0) = true := by first | exact (Bool.and_eq_true_iff.mp c9).2 | (have h_ := c9b0; rw [c8b0, Bool.true_and] at h_; exact h_)
          (try (have c9b1 : decide (a0_0 = 3 && (a0_1 == 0)) = true := by simpa using c9))
          (try (have c9b2 : (a0_0 == 3 && (a0_1 == 0)) = true := by simpa using c9))
          clear c9
          obtain rfl := Option.some.inj H
          go_enter Tryd.func48, Tryd.ntmps48
          go_wp2_with (first | ((with_reducible refine gate_dst (N := 1) rfl ?_); (try (refine gate_guard (by rfl) ?_; dsimp only)); refine box_event ?hg (N := 1) ?hd (cs := #[.int .i64 a0_0, .int .i64 a0_1, .string a0_2]) (t := 23) ?hr ?_; (case hd => rfl); (case hg => rfl); (case hr => first | (go_simp; done) | (go_simp; rfl)); intro gb101 hg w10 hbox hb; have n0_ := Aside0.mk (below_step (by repeat (first | (with_reducible first | exact HB.out | apply below_alloc | apply pw_below_drewN | apply below_drew1) | exact HB.out)) hb); have n1_ := Aside0.mk (hbox); have n2_ := Aside0.mk ((by rw [hg]; exact (below_size (by repeat (first | (with_reducible first | exact HB.out | apply below_alloc | apply pw_below_drewN | apply below_drew1) | exact HB.out))) : w.heap.size ≤ gb101)); have n3_ := Aside0.mk ((by rw [hg]; exact (below_size (by repeat (first | (with_reducible first | exact HB.out | apply below_alloc | apply pw_below_drewN | apply below_drew1) | exact HB.out))) : w.heap.size ≤ gb101)); clear HB; have HB := n0_; have BK101 := n1_; have GW101 := n2_; have GE101 := n3_; clear n0_ n1_ n2_ n3_; clear hb hbox hg; have hcz11_0 : w10.cell? ⟨gb101, 0, none⟩ = some (.int .i64 a0_0) := (blk_cell BK101.out 0).trans rfl; have hcz11_1 : w10.cell? ⟨gb101, 1, none⟩ = some (.int .i64 a0_1) := (blk_cell BK101.out 1).trans rfl; have hcz11_2 : w10.cell? ⟨gb101, 2, none⟩ = some (.string a0_2) := (blk_cell BK101.out 2).trans rfl; have hfz11_0 := blk_frozen BK101.out 0; have hfz11_1 := blk_frozen BK101.out 1; have hfz11_2 := blk_frozen BK101.out 2))
          go_ret
          exact ⟨by first | rfl | (simp [errW_none, errW_some] <;> rfl) | (simp [*, errW_none, errW_some] <;> rfl), by repeat (first | (with_reducible first | exact HB.out | apply below_alloc | apply pw_below_drewN | apply below_drew1 | refine below_set ?_ GE101.out) | exact HB.out)⟩
        · rw [if_neg c9] at H
          have c9b0 : (a0_0 == 3 && (a0_1 == 0)) = false := by simpa using c9
          have c9b5 : (a0_1 == 0) = false := by first | exact (Bool.and_eq_true_iff.mp c9).2 | (have h_ := c9b0; rw [c8b0, Bool.true_and] at h_; exact h_)
          (try (have c9b1 : decide (a0_0 = 3 && (a0_1 == 0)) = false := by simpa using c9))
          (try (have c9b2 : (a0_0 == 3 && (a0_1 == 0)) = false := by simpa using c9))
          (try (have c9b3 : ¬ (a0_0 = 3 && (a0_1 == 0)) := by simpa using c9))
          clear c9
          obtain rfl := Option.some.inj H
          go_enter Tryd.func48, Tryd.ntmps48
          go_wp2_with (first | ((with_reducible refine gate_dst (N := 1) rfl ?_); (try (refine gate_guard (by rfl) ?_; dsimp only)); refine box_event ?hg (N := 1) ?hd (cs := #[.int .i64 a0_0, .int .i64 a0_1, .string a0_2]) (t := 23) ?hr ?_; (case hd => rfl); (case hg => rfl); (case hr => first | (go_simp; done) | (go_simp; rfl)); intro gb101 hg w12 hbox hb; have n0_ := Aside0.mk (below_step (by repeat (first | (with_reducible first | exact HB.out | apply below_alloc | apply pw_below_drewN | apply below_drew1) | exact HB.out)) hb); have n1_ := Aside0.mk (hbox); have n2_ := Aside0.mk ((by rw [hg]; exact (below_size (by repeat (first | (with_reducible first | exact HB.out | apply below_alloc | apply pw_below_drewN | apply below_drew1) | exact HB.out))) : w.heap.size ≤ gb101)); have n3_ := Aside0.mk ((by rw [hg]; exact (below_size (by repeat (first | (with_reducible first | exact HB.out | apply below_alloc | apply pw_below_drewN | apply below_drew1) | exact HB.out))) : w.heap.size ≤ gb101)); clear HB; have HB := n0_; have BK101 := n1_; have GW101 := n2_; have GE101 := n3_; clear n0_ n1_ n2_ n3_; clear hb hbox hg; have hcz13_0 : w12.cell? ⟨gb101, 0, none⟩ = some (.int .i64 a0_0) := (blk_cell BK101.out 0).trans rfl; have hcz13_1 : w12.cell? ⟨gb101, 1, none⟩ = some (.int .i64 a0_1) := (blk_cell BK101.out 1).trans rfl; have hcz13_2 : w12.cell? ⟨gb101, 2, none⟩ = some (.string a0_2) := (blk_cell BK101.out 2).trans rfl; have hfz13_0 := blk_frozen BK101.out 0; have hfz13_1 := blk_frozen BK101.out 1; have hfz13_2 := blk_frozen BK101.out 2))
          go_ret
          exact ⟨by first | rfl | (simp [errW_none, errW_some] <;> rfl) | (simp [*, errW_none, errW_some] <;> rfl), by repeat (first | (with_reducible first | exact HB.out | apply below_alloc | apply pw_below_drewN | apply below_drew1 | refine below_set ?_ GE101.out) | exact HB.out)⟩
      · rw [if_neg c8] at H
        have c8b0 : (a0_0 == 3) = false := beq_eq_false_iff_ne.mpr c8
        have c8b1 : (a0_0 != 3) = true := bne_iff_ne.mpr c8
        obtain rfl := Option.some.inj H
        go_enter Tryd.func48, Tryd.ntmps48
        go_wp2_with (first | ((with_reducible refine gate_dst (N := 1) rfl ?_); (try (refine gate_guard (by rfl) ?_; dsimp only)); refine box_event ?hg (N := 1) ?hd (cs := #[.int .i64 a0_0, .int .i64 a0_1, .string a0_2]) (t := 23) ?hr ?_; (case hd => rfl); (case hg => rfl); (case hr => first | (go_simp; done) | (go_simp; rfl)); intro gb101 hg w14 hbox hb; have n0_ := Aside0.mk (below_step (by repeat (first | (with_reducible first | exact HB.out | apply below_alloc | apply pw_below_drewN | apply below_drew1) | exact HB.out)) hb); have n1_ := Aside0.mk (hbox); have n2_ := Aside0.mk ((by rw [hg]; exact (below_size (by repeat (first | (with_reducible first | exact HB.out | apply below_alloc | apply pw_below_drewN | apply below_drew1) | exact HB.out))) : w.heap.size ≤ gb101)); have n3_ := Aside0.mk ((by rw [hg]; exact (below_size (by repeat (first | (with_reducible first | exact HB.out | apply below_alloc | apply pw_below_drewN | apply below_drew1) | exact HB.out))) : w.heap.size ≤ gb101)); clear HB; have HB := n0_; have BK101 := n1_; have GW101 := n2_; have GE101 := n3_; clear n0_ n1_ n2_ n3_; clear hb hbox hg; have hcz15_0 : w14.cell? ⟨gb101, 0, none⟩ = some (.int .i64 a0_0) := (blk_cell BK101.out 0).trans rfl; have hcz15_1 : w14.cell? ⟨gb101, 1, none⟩ = some (.int .i64 a0_1) := (blk_cell BK101.out 1).trans rfl; have hcz15_2 : w14.cell? ⟨gb101, 2, none⟩ = some (.string a0_2) := (blk_cell BK101.out 2).trans rfl; have hfz15_0 := blk_frozen BK101.out 0; have hfz15_1 := blk_frozen BK101.out 1; have hfz15_2 := blk_frozen BK101.out 2))
        go_ret
        exact ⟨by first | rfl | (simp [errW_none, errW_some] <;> rfl) | (simp [*, errW_none, errW_some] <;> rfl), by repeat (first | (with_reducible first | exact HB.out | apply below_alloc | apply pw_below_drewN | apply below_drew1 | refine below_set ?_ GE101.out) | exact HB.out)⟩

/-! ### strings_Contains: function 49 -/

def strings_Contains.f (a0 a1 : ByteArray) : Option Bool := if a0.size < 4294967281 then some (Lib.contains a0.data.toList a1.data.toList) else none
theorem strings_Contains.calls (a0 : ByteArray) (a1 : ByteArray) (r : Bool) (w : World) (hG : Glob w) (h : strings_Contains.f a0 a1 = some r) :
    Calls Tryd.prog 49 #[.string a0, .string a1] w fun e w' => e = .returned (.bool r) ∧ Drawn0 w w' := by
  unfold strings_Contains.f at h
  split at h
  · obtain rfl := Option.some.inj h
    obtain ⟨m, hm⟩ := hG.maxLen
    refine (Tryd.strings_Contains a0 a1 m w (by assumption) hm).mono ?_
    rintro e w' ⟨rfl, rfl⟩
    exact ⟨rfl, Drawn0.refl _⟩
  · cases h

/-! ### stream_cutLeft: function 61 -/

def stream_cutLeft.f (a0 a1 : ByteArray) : Option ByteArray := if a1.data.toList.all (fun b => decide (b.toNat < 128)) = true then some ⟨(a0.data.toList.dropWhile (fun c => a1.data.toList.contains c)).toArray⟩ else none
set_option maxHeartbeats 4000000 in
set_option maxRecDepth 100000 in
theorem stream_cutLeft.calls (a0 : ByteArray) (a1 : ByteArray) (r : ByteArray) (w : World) (h : stream_cutLeft.f a0 a1 = some r) :
    Calls Tryd.prog 61 #[.string a0, .string a1] w fun e w' => e = .returned (.string r) ∧ Below w.heap.size w w' := by
  unfold stream_cutLeft.f at h
  split at h
  · rename_i hset
    obtain hr := Option.some.inj h
    clear h
    have hasc : ∀ (j : Nat) (hj : j < a1.size), (a1[j]'hj).toNat < 128 := fun j hj => of_decide_eq_true (List.all_eq_true.1 hset _ (List.mem_of_getElem? (get_data a1 j hj)))
    have HA := Aside0.mk hasc
    have HR := Aside0.mk hr
    clear hset hr hasc
    go_enter Tryd.func61, Tryd.ntmps61
    go_wp2
    go_loopw [5] (fun _ wr => ∃ pos : Nat, Aside0 (wr.heap[w.heap.size]? = some (.stringIter a0 pos)) ∧ Aside0 (Below w.heap.size w wr) ∧ Aside0 (∀ j y, j < pos → a0.data.toList[j]? = some y → a1.data.toList.contains y = true)) (fun _ wr => a0.size - wr.iterPos w.heap.size)
    case atStart => exact ⟨0, ⟨World.iter_heap w a0 0⟩, ⟨(Below.refl _ w).alloc (Nat.le_refl _) _⟩, ⟨fun j y hj => absurd hj (Nat.not_lt_zero _)⟩⟩
    case round =>
      obtain ⟨pos, HI, HB, HP⟩ := hrel
      obtain ⟨wo, rfl⟩ : ∃ wo : World, wo = wr := ⟨_, rfl⟩
      by_cases hp : pos < a0.size
      · have hwd : 1 ≤ (Utf8.decode a0 pos).2 := by
          by_cases ha : (a0[pos]'hp).toNat < 128
          · rw [decode_ascii a0 pos hp ha]; exact Nat.le_refl _
          · exact (decode_high a0 pos hp (by omega)).2
        have hsz := HB.out.size
        have hlt := (Array.getElem?_eq_some_iff.1 HI.out).1
        obtain ⟨W1, hnx, HI1, HB1⟩ : ∃ W1, (∀ ty, (Instr.next (.pointer (some ⟨w.heap.size, 0, none⟩)) true ty).run Tryd.prog wo = .ok (.tuple #[.bool true, .int .i64 pos, .int .i32 (Utf8.decode a0 pos).1]) W1) ∧ Aside0 (W1.heap[w.heap.size]? = some (.stringIter a0 (pos + (Utf8.decode a0 pos).2))) ∧ Aside0 (Below w.heap.size w W1) :=
          ⟨_, fun ty => Lib.run_next_any_at wo w.heap.size a0 pos ty HI.out hp, ⟨Lib.iterAt_heap wo w.heap.size a0 pos _ HI.out⟩, ⟨Lib.below_iterAt HB.out (Nat.le_refl _) _ _⟩⟩
        have hlt1 := (Array.getElem?_eq_some_iff.1 HI1.out).1
        have hR1 : Aside0 ((Utf8.decode a0 pos).1 = (a0[pos]'hp).toNat ∧ (Utf8.decode a0 pos).2 = 1 ∨ 128 ≤ (Utf8.decode a0 pos).1 ∧ 128 ≤ (a0[pos]'hp).toNat) := ⟨by
          by_cases ha : (a0[pos]'hp).toNat < 128
          · exact .inl (by rw [decode_ascii a0 pos hp ha]; exact ⟨rfl, rfl⟩)
          · exact .inr ⟨(decode_high a0 pos hp (by omega)).1, by omega⟩⟩
        generalize (Utf8.decode a0 pos).1 = R at *
        generalize (Utf8.decode a0 pos).2 = wd at *
        go_wp2
        go_loopw [7] (fun inn wi => ∃ k : Nat, k ≤ a1.size ∧ Aside0 (wi.heap[W1.heap.size]? = some (.stringIter a1 k)) ∧ Aside0 (wi.heap[w.heap.size]? = some (.stringIter a0 (pos + wd))) ∧ Aside0 (Below w.heap.size w wi) ∧ inn = .bool (among a1 k R)) (fun _ wi => a1.size - wi.iterPos W1.heap.size)
        case atStart => exact ⟨0, Nat.zero_le _, ⟨World.iter_heap W1 a1 0⟩, ⟨(Below.heap_alloc W1 _ _ hlt1).trans HI1.out⟩, ⟨HB1.out.alloc HB1.out.size _⟩, rfl⟩
        case round =>
          obtain ⟨k, hk, HJ, HI2, HB2, rfl⟩ := hrel
          by_cases hk1 : k < a1.size
          · obtain ⟨W2, hnx2, HJ3, HI3, HB3⟩ : ∃ W2, (∀ ty, (Instr.next (.pointer (some ⟨W1.heap.size, 0, none⟩)) true ty).run Tryd.prog wr = .ok (.tuple #[.bool true, .int .i64 k, .int .i32 ((a1[k]'hk1).toNat : Int)]) W2) ∧ Aside0 (W2.heap[W1.heap.size]? = some (.stringIter a1 (k + 1))) ∧ Aside0 (W2.heap[w.heap.size]? = some (.stringIter a0 (pos + wd))) ∧ Aside0 (Below w.heap.size w W2) := by
              have hd := decode_ascii a1 k hk1 (HA.out k hk1)
              refine ⟨wr.iterAt W1.heap.size a1 (k + 1), fun ty => ?_, ⟨Lib.iterAt_heap wr W1.heap.size a1 k _ HJ.out⟩, ⟨(Lib.iterAt_other wr W1.heap.size w.heap.size a1 _ (by omega)).trans HI2.out⟩, ⟨Lib.below_iterAt HB2.out (by omega) _ _⟩⟩
              have := Lib.run_next_any_at (P := Tryd.prog) wr W1.heap.size a1 k ty HJ.out hk1
              rw [hd] at this
              exact this
            have HS := Aside0.mk (among_succ a1 k R hk1)
            have hm2 : W2.iterPos W1.heap.size = k + 1 := by simp only [World.iterPos, HJ3.out]
            have hm1 : wr.iterPos W1.heap.size = k := by simp only [World.iterPos, HJ.out]
            have HM := Aside0.mk (And.intro hm1 hm2)
            clear hm1 hm2
            generalize (a1[k]'hk1).toNat = b at *
            cases hq : among a1 k R with
            | true =>
              have HQ := Aside0.mk hq
              clear hq
              go_wp2
              go_roundw
              case rel => exact ⟨k + 1, by omega, HJ3, HI3, HB3, by rw [HS.out, HQ.out]; rfl⟩
              case measure => rw [HM.out.1, HM.out.2]; omega
            | false =>
              have HQ := Aside0.mk hq
              clear hq
              by_cases hb : R = b
              · have hb1 : ((R : Int) == (b : Int)) = true := by simp [hb]
                have HBB := Aside0.mk hb
                clear hb
                go_wp2
                go_roundw
                case rel => exact ⟨k + 1, by omega, HJ3, HI3, HB3, by rw [HS.out, HQ.out, HBB.out]; simp⟩
                case measure => rw [HM.out.1, HM.out.2]; omega
              · have hb1 : ((R : Int) == (b : Int)) = false := by simp; omega
                have HBB := Aside0.mk hb
                clear hb
                go_wp2
                go_roundw
                case rel => exact ⟨k + 1, by omega, HJ3, HI3, HB3, by rw [HS.out, HQ.out]; simp [HBB.out]⟩
                case measure => rw [HM.out.1, HM.out.2]; omega
          · have hnx2 : ∀ ty, (Instr.next (.pointer (some ⟨W1.heap.size, 0, none⟩)) true ty).run Tryd.prog wr = _ := fun ty => Lib.run_next_end_at wr W1.heap.size a1 k ty HJ.out hk1
            obtain rfl : k = a1.size := by omega
            have HS := Aside0.mk (among_all a1 a1.size R (Nat.le_refl _))
            cases hq : among a1 a1.size R with
            | true =>
              have HQ := Aside0.mk hq
              clear hq
              go_wp2
              go_roundw
              case rel =>
                refine ⟨pos + wd, HI2, HB2, ⟨fun j y hj hy => ?_⟩⟩
                have hany := HS.out.symm.trans HQ.out
                rcases hR1.out with ⟨h1, h2⟩ | ⟨h1, h2⟩
                · by_cases e : j = pos
                  · subst e
                    rw [get_data a0 j hp] at hy
                    cases hy
                    rw [h1, among_byte] at hany
                    exact hany
                  · exact HP.out j y (by omega) hy
                · obtain ⟨b, hb, e⟩ := List.any_eq_true.1 hany
                  obtain ⟨i, hi⟩ := List.mem_iff_getElem?.1 hb
                  have hi2 : i < a1.size := by have := (List.getElem?_eq_some_iff.1 hi).1; simpa using this
                  rw [get_data a1 i hi2] at hi
                  cases hi
                  have := HA.out i hi2
                  have e2 := beq_iff_eq.1 e
                  omega
              case measure =>
                have m1 : wo.iterPos w.heap.size = pos := by simp only [World.iterPos, HI.out]
                have m2 : wr.iterPos w.heap.size = pos + wd := by simp only [World.iterPos, HI2.out]
                rw [m1, m2]
                omega
            | false =>
              have HQ := Aside0.mk hq
              clear hq
              go_wp2
              go_ret
              refine ⟨?_, HB2.out⟩
              rw [← HR.out, drop_hit _ _ pos _ (get_data a0 pos hp) ?_ HP.out]
              · show Ending.returned (.string (a0.extract pos a0.size)) = _
                rw [extract_drop]
              · have hany := HS.out.symm.trans HQ.out
                rw [Bool.eq_false_iff]
                intro hc
                rcases hR1.out with ⟨h1, h2⟩ | ⟨h1, h2⟩
                · rw [h1, among_byte] at hany
                  rw [hany] at hc
                  cases hc
                · obtain ⟨i, hi⟩ := List.mem_iff_getElem?.1 (List.contains_iff_mem.1 hc)
                  have hi2 : i < a1.size := by have := (List.getElem?_eq_some_iff.1 hi).1; simpa using this
                  rw [get_data a1 i hi2] at hi
                  have e := Option.some.inj hi
                  have := HA.out i hi2
                  rw [e] at this
                  omega
      · have hnx : ∀ ty, (Instr.next (.pointer (some ⟨w.heap.size, 0, none⟩)) true ty).run Tryd.prog wo = _ := fun ty => Lib.run_next_end_at wo w.heap.size a0 pos ty HI.out hp
        go_wp2
        go_ret
        exact ⟨by rw [← HR.out, drop_miss _ _ (fun j y hj => HP.out j y (by have := (List.getElem?_eq_some_iff.1 hj).1; simp at this; omega) hj)]; rfl, HB.out⟩
  · cases h

end Go.Proofs.YtccaodehgaaheaaDoor.R
