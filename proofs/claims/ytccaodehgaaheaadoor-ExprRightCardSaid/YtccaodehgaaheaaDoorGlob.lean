/- What the walks of this seat take for granted of package-level variables: internal/bytealg.MaxLen holds some number; internal/strconv.uint64pow10 holds the powers of ten. It stands while what lies below is not written. -/
import Derived.Test.YtccaodehgaaheaaDoorWWords
import Derived.Test.YtccaodehgaaheaaDoorHelp
import Derived.HandedShaped
import Derived.Test.YtccaodehgaaheaaDoorShelf
import Derived.Test.YtccaodehgaaheaaDoorRows
import Derived.LaidLaws
import Derived.LaidMore
import Derived.LaidSub
import Derived.ChangeArms
import Derived.Lib.LaidTab
import Derived.Stop.LaidErr
import Derived.Sort.Grow
namespace Go.Proofs.YtccaodehgaaheaaDoor
open Go.RowKit Go.ChangeShapes Go.Proofs.YtccaodehgaaheaaDoorW.PrintWords
structure Glob (w : World) : Prop where
  maxLen : ∃ m : Int, w.cell? ⟨0, 0, none⟩ = some (.int .i64 m)
  tab : Lib.TabIs Tryd.prog w "internal/strconv.uint64pow10" .u64 Lib.pow10Tab
theorem var_below {P : Program} {w w' : World} {name : String} {cs : Array Value} (h : w.var? P name = some cs) (b : Below w.heap.size w w') : w'.var? P name = some cs := by
  unfold World.var? at h ⊢
  cases hg : P.globalNamed name with
  | none => rw [hg] at h; cases h
  | some g =>
    rw [hg] at h
    simp only [Option.bind_some] at h ⊢
    have hlt : g < w.heap.size := by
      rcases Nat.lt_or_ge g w.heap.size with h' | h'
      · exact h'
      · rw [Array.getElem?_eq_none h'] at h; cases h
    rw [b.block g hlt]
    exact h
theorem Glob.below {w w' : World} (h : Glob w) (b : Below w.heap.size w w') : Glob w' := by
  obtain ⟨⟨m, hm⟩, ht⟩ := h
  exact ⟨⟨m, pw_cell_below b hm⟩, var_below ht b⟩
theorem grow_below (w : World) (k : Nat) (os : Array Obj) : Below w.heap.size w (Go.Sort.grow (w.drewN k) os) := by
  have h1 : Below w.heap.size w (w.drewN k) := pw_below_drewN (Below.refl _ _) k
  refine h1.trans ⟨rfl, rfl, rfl, by simp [Go.Sort.grow], fun i hi => ?_⟩
  exact Go.Sort.heap_grow_old _ _ (by simpa using hi)
/-- What a row's first world gives. -/
theorem Glob.of_row {W : World} (laid : List (String × DataW Unit)) {l : List (String × DataW Unit)} (e : l = laid) (hL : laidMetH Tryd.prog l W) (hsh : W.ShapedOpen Tryd.prog) (hl : laid = Rows.exprTellsRow.laid := by rfl) : Glob W := by
  subst e
  subst hl
  have h0 : laidMet Tryd.prog Rows.exprTellsRow.laid W := by
    have h1 := (laidMetH_iff.1 hL).1
    rwa [show (Rows.exprTellsRow.laid.filter fun x => x.2.handleName?.isNone) = Rows.exprTellsRow.laid by kernel_rfl] at h1
  have h3 := h0.tail.tail
  exact ⟨Tryd.laysM143.s1_3 W hsh, Lib.tabIs_of_head (g := 1) (by kernel_rfl) (by kernel_rfl) Tryd.underlying117 Tryd.underlying91 (by kernel_rfl) (by kernel_rfl) h3⟩
end Go.Proofs.YtccaodehgaaheaaDoor
