/- What the walks of this seat take for granted of package-level variables: internal/bytealg.MaxLen holds some number; strconv's two errors hold an error; lex.signs holds the 25 signs. It stands while what lies below is not written. -/
import Derived.Test.YtjjphfnohgdpjaaDoorWWords
import Derived.Test.YtjjphfnohgdpjaaDoorHelp
import Derived.HandedShaped
import Derived.Test.YtjjphfnohgdpjaaDoorShelf
import Derived.Test.YtjjphfnohgdpjaaDoorRows
import Derived.LaidLaws
import Derived.LaidMore
import Derived.LaidSub
import Derived.Stop.LaidErr
import Derived.ChangeArms
namespace Go.Proofs.YtjjphfnohgdpjaaDoor
open Go.RowKit Go.ChangeShapes Go.Proofs.YtjjphfnohgdpjaaDoorW.PrintWords
def signsL : List ByteArray := [⟨#[59]⟩, ⟨#[33]⟩, ⟨#[124]⟩, ⟨#[40]⟩, ⟨#[41]⟩, ⟨#[91]⟩, ⟨#[93]⟩, ⟨#[44]⟩, ⟨#[58]⟩, ⟨#[46]⟩, ⟨#[61]⟩, ⟨#[35]⟩, ⟨#[43]⟩, ⟨#[45]⟩, ⟨#[42]⟩, ⟨#[47]⟩, ⟨#[37]⟩, ⟨#[60]⟩, ⟨#[62]⟩, ⟨#[61, 61]⟩, ⟨#[33, 61]⟩, ⟨#[60, 61]⟩, ⟨#[62, 61]⟩, ⟨#[38, 38]⟩, ⟨#[124, 124]⟩]
structure Glob (w : World) : Prop where
  maxLen : ∃ m : Int, w.cell? ⟨1, 0, none⟩ = some (.int .i64 m)
  errSyntax : ∃ t p, w.cell? ⟨2, 0, none⟩ = some (.iface t p)
  errRange : ∃ t p, w.cell? ⟨3, 0, none⟩ = some (.iface t p)
  signs : ∃ b o c, 25 ≤ c ∧ w.cell? ⟨0, 0, none⟩ = some (.slice (some ⟨b, o, none⟩) 25 c) ∧ ∀ (j : Nat) x, signsL[j]? = some x → w.cell? ⟨b, o + j, none⟩ = some (.string x)
theorem Glob.below {w w' : World} (h : Glob w) (b : Below w.heap.size w w') : Glob w' := by
  obtain ⟨⟨m, hm⟩, ⟨t, p, h1⟩, ⟨t2, p2, h2⟩, ⟨bb, o, c, hc, h3, h4⟩⟩ := h
  exact ⟨⟨m, pw_cell_below b hm⟩, ⟨t, p, pw_cell_below b h1⟩, ⟨t2, p2, pw_cell_below b h2⟩, ⟨bb, o, c, hc, pw_cell_below b h3, fun j x hx => pw_cell_below b (h4 j x hx)⟩⟩
theorem iface_cell {P : Program} {n nm : String} {d : DataW Unit} {r : List (String × DataW Unit)} {W : World} {g : Nat} {ti : TypeId} {ms : Array (String × TypeId)}
    (h : laidMet P ((n, .iface nm d) :: r) W) (hg : P.globalNamed n = some g) (ht : (P.globals[g]?).map (·.type) = some ti) (hi : P.underlying ti = some (.interface ms)) :
    ∃ t p, W.cell? ⟨g, 0, none⟩ = some (.iface t p) := by
  obtain ⟨ps, ⟨g0, t0, cs0, f0, p0, q0, hg0, ht0, hv0, hd0, _, e0⟩, _⟩ := h
  obtain rfl := Option.some.inj (hg.symm.trans hg0)
  obtain rfl := Option.some.inj (ht.symm.trans ht0)
  obtain ⟨f1, u, v, hcs, _, _⟩ := iface_of_trod hi hd0
  have := World.var?_cell hg hv0 0
  rw [Array.eq_one_of_toList hcs] at this
  exact ⟨_, _, by simpa using this⟩
theorem row_cell {P : Program} {n : String} {ds : List (DataW Unit)} {r : List (String × DataW Unit)} {W : World} {g : Nat} {t e : TypeId}
    (h : laidMet P ((n, .slice ds []) :: r) W) (hg : P.globalNamed n = some g) (ht : (P.globals[g]?).map (·.type) = some t) (hu : P.underlying t = some (.slice e)) (hc : P.cellsOf e = 1) (he : P.underlying e = some .string)
    (xs : List ByteArray) (hx : ds = xs.map fun x => .lit (.string x.data.toList)) (h0 : 0 < xs.length) :
    ∃ b o c, xs.length ≤ c ∧ W.cell? ⟨g, 0, none⟩ = some (.slice (some ⟨b, o, none⟩) xs.length c) ∧ ∀ (j : Nat) x, xs[j]? = some x → W.cell? ⟨b, o + j, none⟩ = some (.string x) := by
  obtain ⟨ps, ⟨g0, t0, cs0, f0, p0, q0, hg0, ht0, hv0, hd0, _, e0⟩, _⟩ := h
  obtain rfl := Option.some.inj (hg.symm.trans hg0)
  obtain rfl := Option.some.inj (ht.symm.trans ht0)
  subst hx
  obtain ⟨a, cap, hcs, hle, hel⟩ := open_row hu hc hd0
  rw [List.length_map] at hcs hle
  have hj : ∀ (j : Nat) x, xs[j]? = some x → W.cell? (a.add j) = some (.string x) := by
    intro j x hj
    obtain ⟨v, n1, q1, hc1, hr1⟩ := hel j _ (by rw [List.getElem?_map, hj]; rfl)
    obtain ⟨s, hs, hd, _⟩ := DataW.trod_string he hr1
    simp only [Prod.mk.injEq, DataW.lit.injEq, Lit.string.injEq] at hd
    simp only [List.cons.injEq, and_true] at hs
    subst hs
    rw [hc1, ← Go.WideShapes.bytes_inj hd.1]
  obtain ⟨b, o, sp⟩ := a
  have hsp : sp = none := by
    have h1 := hj 0 xs[0] (by simp [h0])
    simpa [Addr.add] using World.cell?_spot h1
  subst hsp
  refine ⟨b, o, cap, hle, ?_, fun j x hx => ?_⟩
  · have := World.var?_cell hg hv0 0
    rw [Array.eq_one_of_toList hcs] at this
    simpa using this
  · have := hj j x hx
    rwa [add_at] at this
/-- What a row's first world gives. -/
theorem Glob.of_row {W : World} (laid : List (String × DataW Unit)) {l : List (String × DataW Unit)} (e : l = laid) (hL : laidMetH Tryd.prog l W) (hsh : W.ShapedOpen Tryd.prog) (hl : laid = Rows.lexTellsRow.laid := by rfl) : Glob W := by
  subst e
  subst hl
  have h0 : laidMet Tryd.prog Rows.lexTellsRow.laid W := by
    have h1 := (laidMetH_iff.1 hL).1
    rwa [show (Rows.lexTellsRow.laid.filter fun x => x.2.handleName?.isNone) = Rows.lexTellsRow.laid by kernel_rfl] at h1
  have h3 := h0.tail.tail.tail
  have h4 := h3.tail
  have h5 := h4.tail
  obtain ⟨b, o, c, hc, h6, h7⟩ := row_cell (g := 0) h5 (by kernel_rfl) (by kernel_rfl) Tryd.underlying33 (by kernel_rfl) Tryd.underlying9 signsL rfl (by decide)
  exact ⟨Tryd.laysM143.s1_3 W hsh, iface_cell h4 (by kernel_rfl) (by kernel_rfl) Tryd.underlying63, iface_cell h3 (by kernel_rfl) (by kernel_rfl) Tryd.underlying63, b, o, c, hc, h6, h7⟩
end Go.Proofs.YtjjphfnohgdpjaaDoor
