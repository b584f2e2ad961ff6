/- What the walks of this seat take for granted of package-level variables: internal/bytealg.MaxLen holds some number. It stands while what lies below is not written. -/
import Derived.Test.YtcfdnicnjhilkaaDoorWWords
import Derived.HandedShaped
import Derived.Test.YtcfdnicnjhilkaaDoorShelf
import Derived.LaidLaws
namespace Go.Proofs.YtcfdnicnjhilkaaDoor
open Go.RowKit Go.Proofs.YtcfdnicnjhilkaaDoorW.PrintWords
structure Glob (w : World) : Prop where
  maxLen : ∃ m : Int, w.cell? ⟨0, 0, none⟩ = some (.int .i64 m)
theorem Glob.below {w w' : World} (h : Glob w) (b : Below w.heap.size w w') : Glob w' := by
  obtain ⟨⟨m, hm⟩⟩ := h
  exact ⟨⟨m, pw_cell_below b hm⟩⟩
/-- What a row's first world gives. -/
theorem Glob.of_row {W : World} (laid : List (String × DataW Unit)) {l : List (String × DataW Unit)} (_e : l = laid) (_hL : laidMetH Tryd.prog l W) (hsh : W.ShapedOpen Tryd.prog) : Glob W :=
  ⟨Tryd.laysM143.s1_3 W hsh⟩
end Go.Proofs.YtcfdnicnjhilkaaDoor
