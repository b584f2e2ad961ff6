-- Written by this session's program mprint.py over the kit's printer (with hand-written contracts laid in). Not trusted: Lean checks it.
import Derived.Test.YtcfdnicnjhilkaaDoorJ0
namespace Go.Proofs.YtcfdnicnjhilkaaDoor.J
open Go.RowKit Go.Proofs.YtcfdnicnjhilkaaDoorW.PrintWords Go.Proofs.YtcfdnicnjhilkaaDoorW.PrintLast Go.Proofs.YtcfdnicnjhilkaaDoorW.PrintMore
attribute [local go_sem] max2_int min2_int max_two min_two max_three min_three max_four min_four   -- for this text's walks alone
set_option linter.unusedVariables false
set_option linter.unusedSimpArgs false

/-! ### strings_Split: function 32 -/

def strings_Split.f (a0 a1 : ByteArray) : Option (List ByteArray) := if a0.size < 4294967281 ∧ 1 ≤ a1.size then some ((Lib.split a0.data.toList a1.data.toList).map fun l => ⟨l.toArray⟩) else none
theorem strings_Split.calls (a0 : ByteArray) (a1 : ByteArray) (r : List ByteArray) (w : World) (hG : Glob w) (h : strings_Split.f a0 a1 = some r) :
    Calls Tryd.prog 32 #[.string a0, .string a1] w fun e w' => ∃ v0_ : Value, e = .returned (v0_) ∧ Kd.R Kd.string 9 w' w.heap.size (fun _ => True) v0_ r ∧ Below w.heap.size w w' := by
  unfold strings_Split.f at h
  split at h
  · rename_i hc
    obtain ⟨h1, h2⟩ := hc
    have e1 := Option.some.inj h
    have e2 : Lib.splitB a1 0 (Lib.countB a0 a1) a0 = r := by
      rw [← e1]
      have h3 := Lib.splitB_data a1 0 (Lib.countB a0 a1) a0
      have h4 : (Lib.split a0.data.toList a1.data.toList) = (Lib.splitB a1 0 (Lib.countB a0 a1) a0).map (·.data.toList) := h3.symm
      rw [h4, List.map_map]
      exact (List.map_id _).symm
    obtain ⟨m, hm⟩ := hG.maxLen
    have h3 := Lib.splitB_all a1 h2 0 _ a0 rfl
    refine (Tryd.strings_Split a0 a1 m w h1 hm h2).mono ?_
    rintro e w' ⟨rfl, rfl⟩
    refine ⟨_, rfl, ?_, (Below.refl _ _).alloc (Nat.le_refl _) _⟩
    rw [← h3, ← e2]
    generalize hx : Lib.splitB a1 0 (Lib.countB a0 a1) a0 = xs at h3 ⊢
    have hlen : xs.length ≤ 9223372036854775807 := by
      rw [h3]
      have := Lib.countB_le a1 h2 a0.size a0 (Nat.le_refl _)
      omega
    refine Kd.R_of_own ?_ (fun _ _ => trivial)
    have ho := World.ownsRow_lit (base := w.heap.size) (e := 9) (size := 1) w (xs.map Value.string).toArray xs.length (Nat.le_refl _) (by simpa [maxLen] using hlen) (by simp)
    simpa [encs] using ho
  · cases h

end Go.Proofs.YtcfdnicnjhilkaaDoor.J
