/- The feed's operations in a drawn order. -/
import Derived.Test.YtccaodehgaaheaaDoorFd4
namespace Go.Proofs.YtccaodehgaaheaaDoor.R
open Go.RowKit Go.Proofs.YtccaodehgaaheaaDoorW.PrintWords Go.Proofs.YtccaodehgaaheaaDoorW.PrintLast Go.Proofs.YtccaodehgaaheaaDoorW.PrintMore
set_option linter.unusedVariables false
set_option linter.unusedSimpArgs false
set_option maxHeartbeats 4000000 in
theorem keepT {w' : World} {g8 g9 : Nat} {X1 X2 : S26} {A3 A4 : Option Addr} {c3 c4 : Nat} (h8 : w'.heap[g8]? = some (.cells #[.int .i64 X1.f0, .string X1.f1, .int .i64 X1.f2.f0, .int .i64 X1.f2.f1, .string X1.f2.f2, .string X1.f3, .string X1.f4, .slice A3 X1.f5.length c3] 26 (0, 0))) (h9 : w'.heap[g9]? = some (.cells #[.int .i64 X2.f0, .string X2.f1, .int .i64 X2.f2.f0, .int .i64 X2.f2.f1, .string X2.f2.f2, .string X2.f3, .string X2.f4, .slice A4 X2.f5.length c4] 26 (0, 0))) : w'.cell? ⟨g8, 0, none⟩ = some (.int .i64 X1.f0) ∧ w'.cell? ⟨g8, 1, none⟩ = some (.string X1.f1) ∧ w'.cell? ⟨g8, 2, none⟩ = some (.int .i64 X1.f2.f0) ∧ w'.cell? ⟨g8, 3, none⟩ = some (.int .i64 X1.f2.f1) ∧ w'.cell? ⟨g8, 4, none⟩ = some (.string X1.f2.f2) ∧ w'.cell? ⟨g8, 5, none⟩ = some (.string X1.f3) ∧ w'.cell? ⟨g8, 6, none⟩ = some (.string X1.f4) ∧ w'.cell? ⟨g8, 7, none⟩ = some (.slice A3 X1.f5.length c3) ∧ w'.cell? ⟨g9, 0, none⟩ = some (.int .i64 X2.f0) ∧ w'.cell? ⟨g9, 1, none⟩ = some (.string X2.f1) ∧ w'.cell? ⟨g9, 2, none⟩ = some (.int .i64 X2.f2.f0) ∧ w'.cell? ⟨g9, 3, none⟩ = some (.int .i64 X2.f2.f1) ∧ w'.cell? ⟨g9, 4, none⟩ = some (.string X2.f2.f2) ∧ w'.cell? ⟨g9, 5, none⟩ = some (.string X2.f3) ∧ w'.cell? ⟨g9, 6, none⟩ = some (.string X2.f4) ∧ w'.cell? ⟨g9, 7, none⟩ = some (.slice A4 X2.f5.length c4) := by
  obtain ⟨a0, a1, a2, a3, a4, a5, a6, a7, _, _, _, _, _, _, _, _⟩ := cells8 h8
  obtain ⟨b0, b1, b2, b3, b4, b5, b6, b7, _, _, _, _, _, _, _, _⟩ := cells8 h9
  exact ⟨a0, a1, a2, a3, a4, a5, a6, a7, b0, b1, b2, b3, b4, b5, b6, b7⟩
set_option maxHeartbeats 1000000 in
/-- Eight cells laid one by one. -/
theorem put8 {W : World} {g6 : Nat} {t : TypeId} {u0 u1 u2 u3 u4 u5 u6 u7 : Value} (v0 v1 v2 v3 v4 v5 v6 v7 : Value) (hb : W.heap[g6]? = some (.cells #[u0, u1, u2, u3, u4, u5, u6, u7] t (0, 0))) :
    ((((((((W.setCell ⟨g6, 0, none⟩ v0).setCell ⟨g6, 1, none⟩ v1).setCell ⟨g6, 2, none⟩ v2).setCell ⟨g6, 3, none⟩ v3).setCell ⟨g6, 4, none⟩ v4).setCell ⟨g6, 5, none⟩ v5).setCell ⟨g6, 6, none⟩ v6).setCell ⟨g6, 7, none⟩ v7).heap[g6]? = some (.cells #[v0, v1, v2, v3, v4, v5, v6, v7] t (0, 0)) := by
  have h0 := blk_put (cs' := #[v0, u1, u2, u3, u4, u5, u6, u7]) hb 0 v0 rfl
  have h1 := blk_put (cs' := #[v0, v1, u2, u3, u4, u5, u6, u7]) h0 1 v1 rfl
  have h2 := blk_put (cs' := #[v0, v1, v2, u3, u4, u5, u6, u7]) h1 2 v2 rfl
  have h3 := blk_put (cs' := #[v0, v1, v2, v3, u4, u5, u6, u7]) h2 3 v3 rfl
  have h4 := blk_put (cs' := #[v0, v1, v2, v3, v4, u5, u6, u7]) h3 4 v4 rfl
  have h5 := blk_put (cs' := #[v0, v1, v2, v3, v4, v5, u6, u7]) h4 5 v5 rfl
  have h6 := blk_put (cs' := #[v0, v1, v2, v3, v4, v5, v6, u7]) h5 6 v6 rfl
  have h7 := blk_put (cs' := #[v0, v1, v2, v3, v4, v5, v6, v7]) h6 7 v7 rfl
  exact h7
theorem put8_kb (W : World) (g6 : Nat) (v0 v1 v2 v3 v4 v5 v6 v7 : Value) :
    Kb g6 W ((((((((W.setCell ⟨g6, 0, none⟩ v0).setCell ⟨g6, 1, none⟩ v1).setCell ⟨g6, 2, none⟩ v2).setCell ⟨g6, 3, none⟩ v3).setCell ⟨g6, 4, none⟩ v4).setCell ⟨g6, 5, none⟩ v5).setCell ⟨g6, 6, none⟩ v6).setCell ⟨g6, 7, none⟩ v7) :=
  (((((((Kb.set _ _ _ _).trans (Kb.set _ _ _ _)).trans (Kb.set _ _ _ _)).trans (Kb.set _ _ _ _)).trans (Kb.set _ _ _ _)).trans (Kb.set _ _ _ _)).trans (Kb.set _ _ _ _)).trans (Kb.set _ _ _ _)
/-- The result of an operation of two. -/
structure BinP (w : World) (g g6 : Nat) (A0 : Option Addr) (c0 : Nat) (A2 : Option Addr) (c2 : Nat) (l : List Int) (vars : List Slot) (many a : Int) (op : ByteArray) (X1 X2 : S26) (n : Nat) (WE : World) : Prop where
  b6 : WE.heap[g6]? = some (.cells #[.int .i64 4, .string op, .int .i64 0, .int .i64 0, .string ⟨#[]⟩, .string ⟨#[]⟩, .string ⟨#[]⟩, .slice (some ⟨n, 0, none⟩) 2 2] 26 (0, 0))
  out : FOut w WE g A0 c0 A2 c2 l vars many a (binE op X1 X2) (some ⟨n, 0, none⟩) 2
theorem at_world {p Kx : World → Prop} {W : World} (h : p W) (k : ∀ WE, p WE → Kx WE) : Kx W := k W h
set_option maxHeartbeats 2000000 in
/-- What stands behind an operation of two that was laid in a drawn order. -/
theorem bin_first {w w7 : World} {g g4 g6 : Nat} {A0 A2 A1 : Option Addr} {c0 c2 c1 : Nat} {l : List Int} {vars : List Slot} {own : Slot} {many a : Int} {X1 X2 : S26} {A3 A4 : Option Addr} {c3 c4 B1 B2 lo l2 h1 h2 : Nat} (op : ByteArray) (o : Obj) (FR : Frame w g g4 g6 A0 c0 A2 c2 A1 c1 l vars own many #[.int .i64 0, .string ⟨#[]⟩, .int .i64 0, .int .i64 0, .string ⟨#[]⟩, .string ⟨#[]⟩, .string ⟨#[]⟩, .slice none 0 0] a w7) (NX : Kd.N k26 26 w7 B1 (fun k => lo ≤ k ∧ k < h1) (.slice A3 X1.f5.length c3) X1.f5) (NY : Kd.N k26 26 w7 B2 (fun k => l2 ≤ k ∧ k < h2) (.slice A4 X2.f5.length c4) X2.f5) (hw : w.heap.size ≤ lo) (h6 : g6 < lo) (hl : lo ≤ l2) (h7 : lo ≤ w7.heap.size) :
    BinP w g g6 A0 c0 A2 c2 l vars many a op X1 X2 (w7.heap.size + 1) (((((((((((w7.setCell ⟨g6, 0, none⟩ (.int .i64 4)).setCell ⟨g6, 1, none⟩ (.string op)).setCell ⟨g6, 2, none⟩ (.int .i64 0)).setCell ⟨g6, 3, none⟩ (.int .i64 0)).setCell ⟨g6, 4, none⟩ (.string ⟨#[]⟩)).setCell ⟨g6, 5, none⟩ (.string ⟨#[]⟩)).setCell ⟨g6, 6, none⟩ (.string ⟨#[]⟩)).setCell ⟨g6, 7, none⟩ (.slice (some ⟨w7.heap.size + 1, 0, none⟩) 2 2)).alloc o).alloc (.cells #[.int .i64 X1.f0, .string X1.f1, .int .i64 X1.f2.f0, .int .i64 X1.f2.f1, .string X1.f2.f2, .string X1.f3, .string X1.f4, .slice A3 X1.f5.length c3, .int .i64 X2.f0, .string X2.f1, .int .i64 X2.f2.f0, .int .i64 X2.f2.f1, .string X2.f2.f2, .string X2.f3, .string X2.f4, .slice A4 X2.f5.length c4] 26)).drew) := by
  have hk := put8_kb w7 g6 (.int .i64 4) (.string op) (.int .i64 0) (.int .i64 0) (.string ⟨#[]⟩) (.string ⟨#[]⟩) (.string ⟨#[]⟩) (.slice (some ⟨w7.heap.size + 1, 0, none⟩) 2 2)
  have FRS := FR.result (put8 (.int .i64 4) (.string op) (.int .i64 0) (.int .i64 0) (.string ⟨#[]⟩) (.string ⟨#[]⟩) (.string ⟨#[]⟩) (.slice (some ⟨w7.heap.size + 1, 0, none⟩) 2 2) FR.b6) hk
  replace NX := N_kb NX hk (.inl h6)
  replace NY := N_kb NY hk (.inl (by omega))
  have hsz : (((((((((w7.setCell ⟨g6, 0, none⟩ (.int .i64 4)).setCell ⟨g6, 1, none⟩ (.string op)).setCell ⟨g6, 2, none⟩ (.int .i64 0)).setCell ⟨g6, 3, none⟩ (.int .i64 0)).setCell ⟨g6, 4, none⟩ (.string ⟨#[]⟩)).setCell ⟨g6, 5, none⟩ (.string ⟨#[]⟩)).setCell ⟨g6, 6, none⟩ (.string ⟨#[]⟩)).setCell ⟨g6, 7, none⟩ (.slice (some ⟨w7.heap.size + 1, 0, none⟩) 2 2))).heap.size = w7.heap.size := by simp [World.setCell]
  clear FR hk
  revert FRS NX NY hsz
  generalize ((((((((w7.setCell ⟨g6, 0, none⟩ (.int .i64 4)).setCell ⟨g6, 1, none⟩ (.string op)).setCell ⟨g6, 2, none⟩ (.int .i64 0)).setCell ⟨g6, 3, none⟩ (.int .i64 0)).setCell ⟨g6, 4, none⟩ (.string ⟨#[]⟩)).setCell ⟨g6, 5, none⟩ (.string ⟨#[]⟩)).setCell ⟨g6, 6, none⟩ (.string ⟨#[]⟩)).setCell ⟨g6, 7, none⟩ (.slice (some ⟨w7.heap.size + 1, 0, none⟩) 2 2)) = WS
  intro FRS NX NY hsz
  have FRE := FRS.grow (below_drew (below_alloc (below_alloc (Below.refl _ _) o) (.cells #[.int .i64 X1.f0, .string X1.f1, .int .i64 X1.f2.f0, .int .i64 X1.f2.f1, .string X1.f2.f2, .string X1.f3, .string X1.f4, .slice A3 X1.f5.length c3, .int .i64 X2.f0, .string X2.f1, .int .i64 X2.f2.f0, .int .i64 X2.f2.f1, .string X2.f2.f2, .string X2.f3, .string X2.f4, .slice A4 X2.f5.length c4] 26)))
  have hn := N_new (e := 26) (ok := fun k => lo ≤ k) (reps2 (fk_of (ok := fun k => lo ≤ k) (Kd.F_mono (Kd.N_F (Kd.N_alloc NX o)) (fun k hk => hk.1)) (Kd.N_reads' NX).2.1) (fk_of (ok := fun k => lo ≤ k) (Kd.F_mono (Kd.N_F (Kd.N_alloc NY o)) (fun k hk => Nat.le_trans hl hk.1)) (Kd.N_reads' NY).2.1)) (fun _ h => h) (by simp; omega) (by simp)
  have hs2 : (WS.alloc o).heap.size = w7.heap.size + 1 := by simp [hsz]
  rw [hs2] at hn
  exact ⟨FRE.b6, FRE.out (x := binE op X1 X2) (ok := fun k => lo ≤ k) (by omega) (fun k hk => by omega) (Kd.N_drew hn)⟩
set_option maxHeartbeats 2000000 in
/-- What stands behind an operation of two that was laid in a drawn order. -/
theorem bin_second {w w7 : World} {g g4 g6 : Nat} {A0 A2 A1 : Option Addr} {c0 c2 c1 : Nat} {l : List Int} {vars : List Slot} {own : Slot} {many a : Int} {X1 X2 : S26} {A3 A4 : Option Addr} {c3 c4 B1 B2 lo l2 h1 h2 : Nat} (op : ByteArray) (o : Obj) (FR : Frame w g g4 g6 A0 c0 A2 c2 A1 c1 l vars own many #[.int .i64 0, .string ⟨#[]⟩, .int .i64 0, .int .i64 0, .string ⟨#[]⟩, .string ⟨#[]⟩, .string ⟨#[]⟩, .slice none 0 0] a w7) (NX : Kd.N k26 26 w7 B1 (fun k => lo ≤ k ∧ k < h1) (.slice A3 X1.f5.length c3) X1.f5) (NY : Kd.N k26 26 w7 B2 (fun k => l2 ≤ k ∧ k < h2) (.slice A4 X2.f5.length c4) X2.f5) (hw : w.heap.size ≤ lo) (h6 : g6 < lo) (hl : lo ≤ l2) (h7 : lo ≤ w7.heap.size) :
    BinP w g g6 A0 c0 A2 c2 l vars many a op X1 X2 (w7.heap.size) (((((((((((w7.setCell ⟨g6, 0, none⟩ (.int .i64 4)).setCell ⟨g6, 1, none⟩ (.string op)).setCell ⟨g6, 2, none⟩ (.int .i64 0)).setCell ⟨g6, 3, none⟩ (.int .i64 0)).setCell ⟨g6, 4, none⟩ (.string ⟨#[]⟩)).setCell ⟨g6, 5, none⟩ (.string ⟨#[]⟩)).setCell ⟨g6, 6, none⟩ (.string ⟨#[]⟩)).setCell ⟨g6, 7, none⟩ (.slice (some ⟨w7.heap.size, 0, none⟩) 2 2)).alloc (.cells #[.int .i64 X1.f0, .string X1.f1, .int .i64 X1.f2.f0, .int .i64 X1.f2.f1, .string X1.f2.f2, .string X1.f3, .string X1.f4, .slice A3 X1.f5.length c3, .int .i64 X2.f0, .string X2.f1, .int .i64 X2.f2.f0, .int .i64 X2.f2.f1, .string X2.f2.f2, .string X2.f3, .string X2.f4, .slice A4 X2.f5.length c4] 26)).alloc o).drew) := by
  have hk := put8_kb w7 g6 (.int .i64 4) (.string op) (.int .i64 0) (.int .i64 0) (.string ⟨#[]⟩) (.string ⟨#[]⟩) (.string ⟨#[]⟩) (.slice (some ⟨w7.heap.size, 0, none⟩) 2 2)
  have FRS := FR.result (put8 (.int .i64 4) (.string op) (.int .i64 0) (.int .i64 0) (.string ⟨#[]⟩) (.string ⟨#[]⟩) (.string ⟨#[]⟩) (.slice (some ⟨w7.heap.size, 0, none⟩) 2 2) FR.b6) hk
  replace NX := N_kb NX hk (.inl h6)
  replace NY := N_kb NY hk (.inl (by omega))
  have hsz : (((((((((w7.setCell ⟨g6, 0, none⟩ (.int .i64 4)).setCell ⟨g6, 1, none⟩ (.string op)).setCell ⟨g6, 2, none⟩ (.int .i64 0)).setCell ⟨g6, 3, none⟩ (.int .i64 0)).setCell ⟨g6, 4, none⟩ (.string ⟨#[]⟩)).setCell ⟨g6, 5, none⟩ (.string ⟨#[]⟩)).setCell ⟨g6, 6, none⟩ (.string ⟨#[]⟩)).setCell ⟨g6, 7, none⟩ (.slice (some ⟨w7.heap.size, 0, none⟩) 2 2))).heap.size = w7.heap.size := by simp [World.setCell]
  clear FR hk
  revert FRS NX NY hsz
  generalize ((((((((w7.setCell ⟨g6, 0, none⟩ (.int .i64 4)).setCell ⟨g6, 1, none⟩ (.string op)).setCell ⟨g6, 2, none⟩ (.int .i64 0)).setCell ⟨g6, 3, none⟩ (.int .i64 0)).setCell ⟨g6, 4, none⟩ (.string ⟨#[]⟩)).setCell ⟨g6, 5, none⟩ (.string ⟨#[]⟩)).setCell ⟨g6, 6, none⟩ (.string ⟨#[]⟩)).setCell ⟨g6, 7, none⟩ (.slice (some ⟨w7.heap.size, 0, none⟩) 2 2)) = WS
  intro FRS NX NY hsz
  have FRE := FRS.grow (below_drew (below_alloc (below_alloc (Below.refl _ _) (.cells #[.int .i64 X1.f0, .string X1.f1, .int .i64 X1.f2.f0, .int .i64 X1.f2.f1, .string X1.f2.f2, .string X1.f3, .string X1.f4, .slice A3 X1.f5.length c3, .int .i64 X2.f0, .string X2.f1, .int .i64 X2.f2.f0, .int .i64 X2.f2.f1, .string X2.f2.f2, .string X2.f3, .string X2.f4, .slice A4 X2.f5.length c4] 26)) o))
  have hn := N_new (e := 26) (ok := fun k => lo ≤ k) (reps2 (fk_of (ok := fun k => lo ≤ k) (Kd.F_mono (Kd.N_F NX) (fun k hk => hk.1)) (Kd.N_reads' NX).2.1) (fk_of (ok := fun k => lo ≤ k) (Kd.F_mono (Kd.N_F NY) (fun k hk => Nat.le_trans hl hk.1)) (Kd.N_reads' NY).2.1)) (fun _ h => h) (by omega) (by simp)
  rw [hsz] at hn
  exact ⟨FRE.b6, FRE.out (x := binE op X1 X2) (ok := fun k => lo ≤ k) (by omega) (fun k hk => by omega) (Kd.N_drew (Kd.N_alloc hn o))⟩

set_option maxHeartbeats 8000000 in
set_option maxRecDepth 100000 in
theorem number_bin (d d' : Int) (hdd : IntKind.i64.wrap (d - 1) = d') (g : Nat) (A0 : Option Addr) (c0 : Nat) (A2 : Option Addr) (c2 : Nat) (A1 : Option Addr) (c1 : Nat) (l : List Int) (vars : List Slot) (own : Slot) (a many : Int) (w : World) (hin : FIn w g A0 c0 A2 c2 A1 c1 l vars own many a) (X1 X2 : S26) (a3 a4 : Int) (hrec : ∀ W, FIn W g A0 c0 A2 c2 A1 c1 l vars own many (nx l a).2 → Calls Tryd.prog 30 #[.pointer (some ⟨g, 0, none⟩), .agg #[.string own.f0, .slice A1 own.f1.length c1], .int .i64 d'] W fun e w' => ∃ A c, e = .returned (EV X1 (.slice A (X1).f5.length c)) ∧ FOut W w' g A0 c0 A2 c2 l vars many a3 X1 A c) (hrec2 : ∀ W, FIn W g A0 c0 A2 c2 A1 c1 l vars own many a3 → Calls Tryd.prog 30 #[.pointer (some ⟨g, 0, none⟩), .agg #[.string own.f0, .slice A1 own.f1.length c1], .int .i64 d'] W fun e w' => ∃ A c, e = .returned (EV X2 (.slice A (X2).f5.length c)) ∧ FOut W w' g A0 c0 A2 c2 l vars many a4 X2 A c) (hf3 : Fed l a3) (hm : ¬ Int.tmod (nx l a).1 8 < 5) (hm2 : Int.tmod (nx l a).1 8 ≠ 5) (hm3 : Int.tmod (nx l a).1 8 ≠ 6) (hd : ¬ d < 1) :
    Calls Tryd.prog 30 #[.pointer (some ⟨g, 0, none⟩), .agg #[.string own.f0, .slice A1 own.f1.length c1], .int .i64 d] w fun e w' => ∃ A c, e = .returned (EV (binE (rdOf ByteArray.empty arith (Int.tmod (Int.tdiv (nx l a).1 8) 5)) X1 X2) (.slice A ((binE (rdOf ByteArray.empty arith (Int.tmod (Int.tdiv (nx l a).1 8) 5)) X1 X2)).f5.length c)) ∧ FOut w w' g A0 c0 A2 c2 l vars many a4 (binE (rdOf ByteArray.empty arith (Int.tmod (Int.tdiv (nx l a).1 8) 5)) X1 X2) A c := by
  have HREC := Lib.hid hrec
  have HREC2 := Lib.hid hrec2
  have HF3 := Aside0.mk hf3
  clear hrec hrec2 hf3
  have hu26 := Tryd.underlying26
  have hu59 := Tryd.underlying59
  have hu23 := Tryd.underlying23
  have HIN := Aside0.mk hin
  have hb := hin.fed.byte
  have HN := Lib.hid (fun wc hs hfl => feed_next g A0 c0 (.slice A2 vars.length c2) l a many wc hs hfl hin.fed)
  have HFN := Aside0.mk hin.fed.next
  have HIO := Aside0.mk hin
  generalize (nx l a).1 = b at HN hb hm hm2 hm3 ⊢
  generalize (nx l a).2 = a2 at HN HFN HREC ⊢
  clear hin
  obtain ⟨hb0, hb1⟩ := hb
  obtain ⟨m, hmm⟩ : ∃ m, Int.tmod b 8 = m := ⟨_, rfl⟩
  have hme : b % 8 = m := by rw [← Int.tmod_eq_emod_of_nonneg hb0]; exact hmm
  rw [hmm] at hm hm2 hm3
  have HMM := Aside0.mk hmm
  clear hmm
  have d0 : decide (m < 3) = false := decide_eq_false (by omega)
  have d1 : (m == 5) = false := beq_eq_false_iff_ne.2 hm2
  have d2 : (m == 6) = false := beq_eq_false_iff_ne.2 hm3
  obtain ⟨q, hq⟩ : ∃ q, Int.tdiv b 8 = q := ⟨_, rfl⟩
  have hqe : b / 8 = q := by rw [← Int.tdiv_eq_ediv_of_nonneg hb0]; exact hq
  have hq0 : 0 ≤ q := by omega
  have hwq : IntKind.i64.wrap q = q := by rw [i64_w]; unfold wrap64; omega
  rw [hq]
  obtain ⟨j, hj⟩ : ∃ j, Int.tmod q 5 = j := ⟨_, rfl⟩
  have hje : q % 5 = j := by rw [← Int.tmod_eq_emod_of_nonneg hq0]; exact hj
  rw [hj]
  have hj0 : 0 ≤ j := by omega
  have hj1 : j < 5 := by omega
  have pj0 : (0 ≤ j) = True := eq_true hj0
  have pj1 : (j < 5) = True := eq_true hj1
  have hjA : (#[.string ⟨#[43]⟩, .string ⟨#[45]⟩, .string ⟨#[42]⟩, .string ⟨#[47]⟩, .string ⟨#[37]⟩] : Array Value)[j.toNat]? = some (.string (rdOf ByteArray.empty arith j)) := by
    have hjc : j = 0 ∨ j = 1 ∨ j = 2 ∨ j = 3 ∨ j = 4 := by omega
    rcases hjc with rfl | rfl | rfl | rfl | rfl <;> rfl
  have hjL : ([.string ⟨#[43]⟩, .string ⟨#[45]⟩, .string ⟨#[42]⟩, .string ⟨#[47]⟩, .string ⟨#[37]⟩] : List Value)[j.toNat]? = some (.string (rdOf ByteArray.empty arith j)) := by
    have hjc : j = 0 ∨ j = 1 ∨ j = 2 ∨ j = 3 ∨ j = 4 := by omega
    rcases hjc with rfl | rfl | rfl | rfl | rfl <;> rfl
  generalize rdOf ByteArray.empty arith j = op at hjA hjL ⊢
  have hjG : ∀ h, (#[.string ⟨#[43]⟩, .string ⟨#[45]⟩, .string ⟨#[42]⟩, .string ⟨#[47]⟩, .string ⟨#[37]⟩] : Array Value)[j.toNat]'h = .string op := fun h => by have := Array.getElem?_eq_getElem h; rw [hjA] at this; exact (Option.some.inj this).symm
  have hjH : ∀ h, ([.string ⟨#[43]⟩, .string ⟨#[45]⟩, .string ⟨#[42]⟩, .string ⟨#[47]⟩, .string ⟨#[37]⟩] : List Value)[j.toNat]'h = .string op := fun h => by have := List.getElem?_eq_getElem h; rw [hjL] at this; exact (Option.some.inj this).symm
  go_enter Tryd.func30, Tryd.ntmps30
  go_upto_region 12 with (first
    | ((with_reducible refine gate_dst (N := 4) rfl ?_); refine box_event ?hg (N := 4) ?hd (cs := #[.string own.f0, .slice A1 own.f1.length c1]) (t := 59) ?hr ?_; (case hd => rfl); (case hg => rfl); (case hr => first | (go_simp; done) | (go_simp; rfl)); intro g4 e4 wa hbox hb4; have BK4 := Aside0.mk hbox; have E4 := Aside0.mk e4; have HWA := Aside0.mk hb4; clear hbox e4 hb4)
    | ((with_reducible refine gate_dst (N := 6) rfl ?_); refine box_event ?hg (N := 6) ?hd (cs := #[.int .i64 0, .string ⟨#[]⟩, .int .i64 0, .int .i64 0, .string ⟨#[]⟩, .string ⟨#[]⟩, .string ⟨#[]⟩, .slice none 0 0]) (t := 26) ?hr ?_; (case hd => rfl); (case hg => rfl); (case hr => first | (go_simp; done) | (go_simp; rfl)); intro g6 e6 wb hbox hb6; have FR := Aside0.mk (Frame.begin HIN.out E4.out BK4.out HWA.out (Nat.le_of_eq e6.symm) hbox hb6); clear hbox e6 hb6 BK4 E4 HWA)
    | (go_at_call 29; refine (HN.out wb FR.out.st FR.out.fl').mono ?_; rintro e w1 ⟨rfl, hst, hk⟩; replace FR := Aside0.mk (FR.out.turn hst hk); clear hst hk HN; have hc40 : w1.cell? ⟨g4, 0, none⟩ = some (.string own.f0) := (blk_cell FR.out.b4 0).trans rfl; have HW1 := Aside0.mk (show w.heap.size ≤ w1.heap.size ∧ g4 < w1.heap.size ∧ g6 < w1.heap.size ∧ g < w.heap.size from ⟨FR.out.kb.size, FR.out.lt4, FR.out.lt6, FR.out.glt⟩))
    | ((with_reducible refine gate_dst (N := 55) rfl ?_); refine wpList_load_row rfl 59 (.tmp 4) rfl g4 (by rfl) 59 _ (0, 0) _ FR.out.b4 Tryd.underlying59 rfl (by kernel_rfl) ?_)
    | (go_at_call 30; refine (HREC.out w1 (FR.out.input HIO.out HFN.out)).mono ?_; rintro e w2 ⟨A3, c3, rfl, ho3⟩; have Hw2 := Aside0.mk (show w1.heap.size ≤ w2.heap.size from ho3.kb.size); have NX := Aside0.mk (N_made_between ho3.kids); replace FR := Aside0.mk (FR.out.turn ho3.st ho3.kb); clear ho3 HREC)
    | ((with_reducible refine gate_dst (N := 8) rfl ?_); refine box_event ?hg (N := 8) ?hd (cs := #[.int .i64 0, .string ⟨#[]⟩, .int .i64 0, .int .i64 0, .string ⟨#[]⟩, .string ⟨#[]⟩, .string ⟨#[]⟩, .slice none 0 0]) (t := 26) ?hr ?_; (case hd => rfl); (case hg => rfl); (case hr => first | (go_simp; done) | (go_simp; rfl)); intro g8 e8 w3 hbox hb_; have B8 := Aside0.mk hbox; have E8 := Aside0.mk (show g8 = w2.heap.size from e8); have HS8 := Aside0.mk (show w2.heap.size ≤ w3.heap.size from hb_.size); replace NX := Aside0.mk (Kd.N_below NX.out hb_); replace FR := Aside0.mk (FR.out.grow hb_); clear hbox e8 hb_)
    | ((with_reducible refine gate_store (t := 26) (p := 8) rfl ?_); refine ev_store rfl rfl 26 8 (.tmp 58) rfl g8 #[.int .i64 X1.f0, .string X1.f1, .int .i64 X1.f2.f0, .int .i64 X1.f2.f1, .string X1.f2.f2, .string X1.f3, .string X1.f4, .slice A3 X1.f5.length c3] (by rfl) (by rfl) 26 _ B8.out (by kernel_rfl) rfl (one8' _ _ _) ?_; intro w4 hbz hkz; replace B8 := Aside0.mk hbz; have HT8 := Aside0.mk hkz.size; replace NX := Aside0.mk (N_kb NX.out hkz (.inr (by have h1_ := HW1.out; have h2_ := Hw2.out; have h8_ := E8.out; omega))); replace FR := Aside0.mk (FR.out.other (by have h1_ := HW1.out; have h2_ := Hw2.out; have h8_ := E8.out; omega) (by have h1_ := HW1.out; have h2_ := Hw2.out; have h8_ := E8.out; omega) (by have h1_ := HW1.out; have h2_ := Hw2.out; have h8_ := E8.out; omega) hkz); clear hbz hkz)
    | ((with_reducible refine gate_dst (N := 60) rfl ?_); refine wpList_load_row rfl 59 (.tmp 4) rfl g4 (by rfl) 59 _ (0, 0) _ FR.out.b4 Tryd.underlying59 rfl (by kernel_rfl) ?_)
    | (go_at_call 30; refine (HREC2.out w4 (FR.out.input HIO.out HF3.out)).mono ?_; rintro e w5 ⟨A4, c4, rfl, ho3⟩; have Hw5 := Aside0.mk (show w4.heap.size ≤ w5.heap.size from ho3.kb.size); have NY := Aside0.mk (N_made_between ho3.kids); have B8l := Aside0.mk (blk_lt B8.out); replace NX := Aside0.mk (N_kb NX.out ho3.kb (.inl (by have h1_ := HW1.out; omega))); replace B8 := Aside0.mk (ho3.kb.blk B8.out (by have h1_ := HW1.out; have h2_ := Hw2.out; have h8_ := E8.out; omega)); replace FR := Aside0.mk (FR.out.turn ho3.st ho3.kb); clear ho3 HREC2)
    | ((with_reducible refine gate_dst (N := 9) rfl ?_); refine box_event ?hg (N := 9) ?hd (cs := #[.int .i64 0, .string ⟨#[]⟩, .int .i64 0, .int .i64 0, .string ⟨#[]⟩, .string ⟨#[]⟩, .string ⟨#[]⟩, .slice none 0 0]) (t := 26) ?hr ?_; (case hd => rfl); (case hg => rfl); (case hr => first | (go_simp; done) | (go_simp; rfl)); intro g9 e9 w6 hbox hb_; have B9 := Aside0.mk hbox; have E9 := Aside0.mk (show g9 = w5.heap.size from e9); have HS9 := Aside0.mk (show w5.heap.size ≤ w6.heap.size from hb_.size); replace NX := Aside0.mk (Kd.N_below NX.out hb_); replace NY := Aside0.mk (Kd.N_below NY.out hb_); replace B8 := Aside0.mk (blk_below B8.out hb_); replace FR := Aside0.mk (FR.out.grow hb_); clear hbox e9 hb_)
    | ((with_reducible refine gate_store (t := 26) (p := 9) rfl ?_); refine ev_store rfl rfl 26 9 (.tmp 63) rfl g9 #[.int .i64 X2.f0, .string X2.f1, .int .i64 X2.f2.f0, .int .i64 X2.f2.f1, .string X2.f2.f2, .string X2.f3, .string X2.f4, .slice A4 X2.f5.length c4] (by rfl) (by rfl) 26 _ B9.out (by kernel_rfl) rfl (one8' _ _ _) ?_; intro w7 hbz hkz; replace B9 := Aside0.mk hbz; have HT9 := Aside0.mk hkz.size; replace NX := Aside0.mk (N_kb NX.out hkz (.inr (by have h1_ := HW1.out; have h2_ := Hw2.out; have h8_ := E8.out; have h3_ := HS8.out; have h4_ := HT8.out; have h5_ := Hw5.out; have h9_ := E9.out; have b8_ := B8l.out; omega))); replace NY := Aside0.mk (N_kb NY.out hkz (.inr (by have h1_ := HW1.out; have h2_ := Hw2.out; have h8_ := E8.out; have h3_ := HS8.out; have h4_ := HT8.out; have h5_ := Hw5.out; have h9_ := E9.out; have b8_ := B8l.out; omega))); replace B8 := Aside0.mk (hkz.blk B8.out (by have h1_ := HW1.out; have h2_ := Hw2.out; have h8_ := E8.out; have h3_ := HS8.out; have h4_ := HT8.out; have h5_ := Hw5.out; have h9_ := E9.out; have b8_ := B8l.out; omega)); replace FR := Aside0.mk (FR.out.other (by have h1_ := HW1.out; have h2_ := Hw2.out; have h8_ := E8.out; have h3_ := HS8.out; have h4_ := HT8.out; have h5_ := Hw5.out; have h9_ := E9.out; have b8_ := B8l.out; omega) (by have h1_ := HW1.out; have h2_ := Hw2.out; have h8_ := E8.out; have h3_ := HS8.out; have h4_ := HT8.out; have h5_ := Hw5.out; have h9_ := E9.out; have b8_ := B8l.out; omega) (by have h1_ := HW1.out; have h2_ := Hw2.out; have h8_ := E8.out; have h3_ := HS8.out; have h4_ := HT8.out; have h5_ := Hw5.out; have h9_ := E9.out; have b8_ := B8l.out; omega) hkz); clear hbz hkz))
  have H6 := Aside0.mk FR.out.b6
  obtain ⟨d0_, d1_, d2_, d3_, d4_, d5_, d6_, d7_, f0_, f1_, f2_, f3_, f4_, f5_, f6_, f7_⟩ := cells8 H6.out
  have n1_ : g6 < w7.heap.size := blk_lt H6.out
  have n2_ : g6 < w7.heap.size + 1 := Nat.lt_succ_of_lt n1_
  have BF := Lib.hid (fun op o => bin_first (lo := w1.heap.size) (l2 := w4.heap.size) op o FR.out NX.out NY.out (by have h1_ := HW1.out; have h2_ := Hw2.out; have h8_ := E8.out; have h3_ := HS8.out; have h4_ := HT8.out; have h5_ := Hw5.out; have h9_ := E9.out; have h6_ := HS9.out; have h7_ := HT9.out; omega) (by have h1_ := HW1.out; have h2_ := Hw2.out; have h8_ := E8.out; have h3_ := HS8.out; have h4_ := HT8.out; have h5_ := Hw5.out; have h9_ := E9.out; have h6_ := HS9.out; have h7_ := HT9.out; omega) (by have h1_ := HW1.out; have h2_ := Hw2.out; have h8_ := E8.out; have h3_ := HS8.out; have h4_ := HT8.out; have h5_ := Hw5.out; have h9_ := E9.out; have h6_ := HS9.out; have h7_ := HT9.out; omega) (by have h1_ := HW1.out; have h2_ := Hw2.out; have h8_ := E8.out; have h3_ := HS8.out; have h4_ := HT8.out; have h5_ := Hw5.out; have h9_ := E9.out; have h6_ := HS9.out; have h7_ := HT9.out; omega))
  have BS := Lib.hid (fun op o => bin_second (lo := w1.heap.size) (l2 := w4.heap.size) op o FR.out NX.out NY.out (by have h1_ := HW1.out; have h2_ := Hw2.out; have h8_ := E8.out; have h3_ := HS8.out; have h4_ := HT8.out; have h5_ := Hw5.out; have h9_ := E9.out; have h6_ := HS9.out; have h7_ := HT9.out; omega) (by have h1_ := HW1.out; have h2_ := Hw2.out; have h8_ := E8.out; have h3_ := HS8.out; have h4_ := HT8.out; have h5_ := Hw5.out; have h9_ := E9.out; have h6_ := HS9.out; have h7_ := HT9.out; omega) (by have h1_ := HW1.out; have h2_ := Hw2.out; have h8_ := E8.out; have h3_ := HS8.out; have h4_ := HT8.out; have h5_ := Hw5.out; have h9_ := E9.out; have h6_ := HS9.out; have h7_ := HT9.out; omega) (by have h1_ := HW1.out; have h2_ := Hw2.out; have h8_ := E8.out; have h3_ := HS8.out; have h4_ := HT8.out; have h5_ := Hw5.out; have h9_ := E9.out; have h6_ := HS9.out; have h7_ := HT9.out; omega))
  have N86 := Aside0.mk (show g8 ≠ g6 from (by have h1_ := HW1.out; have h2_ := Hw2.out; have h8_ := E8.out; have h3_ := HS8.out; have h4_ := HT8.out; have h5_ := Hw5.out; have h9_ := E9.out; have h6_ := HS9.out; have h7_ := HT9.out; omega))
  have N96 := Aside0.mk (show g9 ≠ g6 from (by have h1_ := HW1.out; have h2_ := Hw2.out; have h8_ := E8.out; have h3_ := HS8.out; have h4_ := HT8.out; have h5_ := Hw5.out; have h9_ := E9.out; have h6_ := HS9.out; have h7_ := HT9.out; omega))
  refine wp_region_noPanic ?_
  refine wp_region_held_drew (S := fun w' => w'.cell? ⟨g8, 0, none⟩ = some (.int .i64 X1.f0) ∧ w'.cell? ⟨g8, 1, none⟩ = some (.string X1.f1) ∧ w'.cell? ⟨g8, 2, none⟩ = some (.int .i64 X1.f2.f0) ∧ w'.cell? ⟨g8, 3, none⟩ = some (.int .i64 X1.f2.f1) ∧ w'.cell? ⟨g8, 4, none⟩ = some (.string X1.f2.f2) ∧ w'.cell? ⟨g8, 5, none⟩ = some (.string X1.f3) ∧ w'.cell? ⟨g8, 6, none⟩ = some (.string X1.f4) ∧ w'.cell? ⟨g8, 7, none⟩ = some (.slice A3 X1.f5.length c3) ∧ w'.cell? ⟨g9, 0, none⟩ = some (.int .i64 X2.f0) ∧ w'.cell? ⟨g9, 1, none⟩ = some (.string X2.f1) ∧ w'.cell? ⟨g9, 2, none⟩ = some (.int .i64 X2.f2.f0) ∧ w'.cell? ⟨g9, 3, none⟩ = some (.int .i64 X2.f2.f1) ∧ w'.cell? ⟨g9, 4, none⟩ = some (.string X2.f2.f2) ∧ w'.cell? ⟨g9, 5, none⟩ = some (.string X2.f3) ∧ w'.cell? ⟨g9, 6, none⟩ = some (.string X2.f4) ∧ w'.cell? ⟨g9, 7, none⟩ = some (.slice A4 X2.f5.length c4)) (by kernel_rfl) ?_ (fun hHeld => ?_)
  · (try dsimp only); exact keepT (by with_reducible repeat (first | refine blk_drew ?_ | refine blk_alloc ?_ _ | refine blk_far ?_ N86.out _ | exact B8.out)) (by with_reducible repeat (first | refine blk_drew ?_ | refine blk_alloc ?_ _ | refine blk_far ?_ N96.out _ | exact B9.out))
  refine wpAnyH_take (i := 1) (oi := _) (v := ?_) rfl (by kernel_rfl) (by kernel_rfl) (by kernel_rfl) (fun _ _ _ h => h) (Or.inl ⟨by rfl, ?_⟩) (by assumption) ?_
  rotate_left
  · (intro w_ hSw; (try dsimp only at hSw); go_simp; try with_reducible rfl)
  try simp only [Act.put, List.setIfInBounds_toArray, List.set_cons_zero, List.set_cons_succ]
  refine wpAnyH_take (i := 2) (oi := _) (v := ?_) rfl (by kernel_rfl) (by kernel_rfl) (by kernel_rfl) (fun _ _ _ h => h) (Or.inl ⟨by rfl, ?_⟩) (by assumption) ?_
  rotate_left
  · (intro w_ hSw; (try dsimp only at hSw); go_simp; try with_reducible rfl)
  try simp only [Act.put, List.setIfInBounds_toArray, List.set_cons_zero, List.set_cons_succ]
  refine wpAnyH_take (i := 3) (oi := _) (v := ?_) rfl (by kernel_rfl) (by kernel_rfl) (by kernel_rfl) (fun _ _ _ h => h) (Or.inl ⟨by rfl, ?_⟩) (by assumption) ?_
  rotate_left
  · (intro w_ hSw; (try dsimp only at hSw); go_simp; try with_reducible rfl)
  try simp only [Act.put, List.setIfInBounds_toArray, List.set_cons_zero, List.set_cons_succ]
  refine wpAnyH_take (i := 6) (oi := _) (v := ?_) rfl (by kernel_rfl) (by kernel_rfl) (by kernel_rfl) (fun _ _ _ h => h) (Or.inl ⟨by rfl, ?_⟩) (by assumption) ?_
  rotate_left
  · (intro w_ hSw; (try dsimp only at hSw); go_simp; try with_reducible rfl)
  try simp only [Act.put, List.setIfInBounds_toArray, List.set_cons_zero, List.set_cons_succ]
  refine wpAnyH_take (i := 7) (oi := _) (v := ?_) rfl (by kernel_rfl) (by kernel_rfl) (by kernel_rfl) (fun _ _ _ h => h) (Or.inl ⟨by rfl, ?_⟩) (by assumption) ?_
  rotate_left
  · (intro w_ hSw; (try dsimp only at hSw); go_simp; try with_reducible rfl)
  try simp only [Act.put, List.setIfInBounds_toArray, List.set_cons_zero, List.set_cons_succ]
  refine wpAnyH_ready (rs := [0, 8]) (by kernel_rfl) (by simp) ?_
  refine AllReadyH.cons (o := _) rfl (fun K hK => ?_) (AllReadyH.cons (o := _) rfl (fun K hK => ?_) AllReadyH.nil)
  · go_simp
    refine hK.out _ _ ?_ (fun hHeld => ?_)
    · (try dsimp only); exact keepT (by with_reducible repeat (first | refine blk_drew ?_ | refine blk_alloc ?_ _ | refine blk_far ?_ N86.out _ | exact B8.out)) (by with_reducible repeat (first | refine blk_drew ?_ | refine blk_alloc ?_ _ | refine blk_far ?_ N96.out _ | exact B9.out))
    clear hK K
    try simp only [Act.put, List.setIfInBounds_toArray, List.set_cons_zero, List.set_cons_succ]
    refine wpAnyH_take (i := 4) (oi := _) (v := ?_) rfl (by kernel_rfl) (by kernel_rfl) (by kernel_rfl) (fun _ _ _ h => h) (Or.inl ⟨by rfl, ?_⟩) (by assumption) ?_
    rotate_left
    · (intro w_ hSw; (try dsimp only at hSw); go_simp; try with_reducible rfl)
    try simp only [Act.put, List.setIfInBounds_toArray, List.set_cons_zero, List.set_cons_succ]
    refine wpAnyH_ready (rs := [5, 8]) (by kernel_rfl) (by simp) ?_
    refine AllReadyH.cons (o := _) rfl (fun K hK => ?_) (AllReadyH.cons (o := _) rfl (fun K hK => ?_) AllReadyH.nil)
    · go_simp
      refine hK.out _ _ ?_ (fun hHeld => ?_)
      · (try dsimp only); exact keepT (by with_reducible repeat (first | refine blk_drew ?_ | refine blk_alloc ?_ _ | refine blk_far ?_ N86.out _ | exact B8.out)) (by with_reducible repeat (first | refine blk_drew ?_ | refine blk_alloc ?_ _ | refine blk_far ?_ N96.out _ | exact B9.out))
      clear hK K
      try simp only [Act.put, List.setIfInBounds_toArray, List.set_cons_zero, List.set_cons_succ]
      refine wpAnyH_ready (rs := [8]) (by kernel_rfl) (by simp) ?_
      refine AllReadyH.cons (o := _) rfl (fun K hK => ?_) AllReadyH.nil
      go_simp
      refine hK.out _ _ ?_ (fun hHeld => ?_)
      · (try dsimp only); exact keepT (by with_reducible repeat (first | refine blk_drew ?_ | refine blk_alloc ?_ _ | refine blk_far ?_ N86.out _ | exact B8.out)) (by with_reducible repeat (first | refine blk_drew ?_ | refine blk_alloc ?_ _ | refine blk_far ?_ N96.out _ | exact B9.out))
      clear hK K
      try simp only [Act.put, List.setIfInBounds_toArray, List.set_cons_zero, List.set_cons_succ]
      refine wpAnyH_take (i := 9) (oi := _) (v := ?_) rfl (by kernel_rfl) (by kernel_rfl) (by kernel_rfl) (fun _ _ _ h => h) (Or.inl ⟨by rfl, ?_⟩) (by assumption) ?_
      rotate_left
      · (intro w_ hSw; (try dsimp only at hSw); go_simp; try with_reducible rfl)
      try simp only [Act.put, List.setIfInBounds_toArray, List.set_cons_zero, List.set_cons_succ]
      refine wpAnyH_ready (rs := [10]) (by kernel_rfl) (by simp) ?_
      refine AllReadyH.cons (o := _) rfl (fun K hK => ?_) AllReadyH.nil
      go_simp
      refine hK.out _ _ ?_ (fun hHeld => ?_)
      · (try dsimp only); exact keepT (by with_reducible repeat (first | refine blk_drew ?_ | refine blk_alloc ?_ _ | refine blk_far ?_ N86.out _ | exact B8.out)) (by with_reducible repeat (first | refine blk_drew ?_ | refine blk_alloc ?_ _ | refine blk_far ?_ N96.out _ | exact B9.out))
      clear hK K
      try simp only [Act.put, List.setIfInBounds_toArray, List.set_cons_zero, List.set_cons_succ]
      refine wpAnyH_done (by kernel_rfl) ?_ _
      refine NoPanic.normal ?_
      with_reducible refine at_world (Kx := fun x => Exit.then _ _ _ _ x) (BF.out _ _) ?_
      intro WE hE
      have HE := Aside0.mk hE
      clear hHeld
      clear hE BF BS B8 B9 H6 NX NY FR hjA hjL hjG hjH
      clear d0_ d1_ d2_ d3_ d4_ d5_ d6_ d7_ f0_ f1_ f2_ f3_ f4_ f5_ f6_ f7_
      go_wp2
      refine bodyPost_ret (results_cell_row rfl _ _ g6 26 _ (0, 0) _ rfl HE.out.b6 Tryd.underlying26 rfl (by kernel_rfl)) rfl ?_
      exact ⟨_, _, rfl, HE.out.out⟩
    · go_simp
      refine hK.out _ _ ?_ (fun hHeld => ?_)
      · (try dsimp only); exact keepT (by with_reducible repeat (first | refine blk_drew ?_ | refine blk_alloc ?_ _ | refine blk_far ?_ N86.out _ | exact B8.out)) (by with_reducible repeat (first | refine blk_drew ?_ | refine blk_alloc ?_ _ | refine blk_far ?_ N96.out _ | exact B9.out))
      clear hK K
      try simp only [Act.put, List.setIfInBounds_toArray, List.set_cons_zero, List.set_cons_succ]
      refine wpAnyH_ready (rs := [5]) (by kernel_rfl) (by simp) ?_
      refine AllReadyH.cons (o := _) rfl (fun K hK => ?_) AllReadyH.nil
      go_simp
      refine hK.out _ _ ?_ (fun hHeld => ?_)
      · (try dsimp only); exact keepT (by with_reducible repeat (first | refine blk_drew ?_ | refine blk_alloc ?_ _ | refine blk_far ?_ N86.out _ | exact B8.out)) (by with_reducible repeat (first | refine blk_drew ?_ | refine blk_alloc ?_ _ | refine blk_far ?_ N96.out _ | exact B9.out))
      clear hK K
      try simp only [Act.put, List.setIfInBounds_toArray, List.set_cons_zero, List.set_cons_succ]
      refine wpAnyH_take (i := 9) (oi := _) (v := ?_) rfl (by kernel_rfl) (by kernel_rfl) (by kernel_rfl) (fun _ _ _ h => h) (Or.inl ⟨by rfl, ?_⟩) (by assumption) ?_
      rotate_left
      · (intro w_ hSw; (try dsimp only at hSw); go_simp; try with_reducible rfl)
      try simp only [Act.put, List.setIfInBounds_toArray, List.set_cons_zero, List.set_cons_succ]
      refine wpAnyH_ready (rs := [10]) (by kernel_rfl) (by simp) ?_
      refine AllReadyH.cons (o := _) rfl (fun K hK => ?_) AllReadyH.nil
      go_simp
      refine hK.out _ _ ?_ (fun hHeld => ?_)
      · (try dsimp only); exact keepT (by with_reducible repeat (first | refine blk_drew ?_ | refine blk_alloc ?_ _ | refine blk_far ?_ N86.out _ | exact B8.out)) (by with_reducible repeat (first | refine blk_drew ?_ | refine blk_alloc ?_ _ | refine blk_far ?_ N96.out _ | exact B9.out))
      clear hK K
      try simp only [Act.put, List.setIfInBounds_toArray, List.set_cons_zero, List.set_cons_succ]
      refine wpAnyH_done (by kernel_rfl) ?_ _
      refine NoPanic.normal ?_
      with_reducible refine at_world (Kx := fun x => Exit.then _ _ _ _ x) (BF.out _ _) ?_
      intro WE hE
      have HE := Aside0.mk hE
      clear hHeld
      clear hE BF BS B8 B9 H6 NX NY FR hjA hjL hjG hjH
      clear d0_ d1_ d2_ d3_ d4_ d5_ d6_ d7_ f0_ f1_ f2_ f3_ f4_ f5_ f6_ f7_
      go_wp2
      refine bodyPost_ret (results_cell_row rfl _ _ g6 26 _ (0, 0) _ rfl HE.out.b6 Tryd.underlying26 rfl (by kernel_rfl)) rfl ?_
      exact ⟨_, _, rfl, HE.out.out⟩
  · go_simp
    refine hK.out _ _ ?_ (fun hHeld => ?_)
    · (try dsimp only); exact keepT (by with_reducible repeat (first | refine blk_drew ?_ | refine blk_alloc ?_ _ | refine blk_far ?_ N86.out _ | exact B8.out)) (by with_reducible repeat (first | refine blk_drew ?_ | refine blk_alloc ?_ _ | refine blk_far ?_ N96.out _ | exact B9.out))
    clear hK K
    try simp only [Act.put, List.setIfInBounds_toArray, List.set_cons_zero, List.set_cons_succ]
    refine wpAnyH_ready (rs := [0]) (by kernel_rfl) (by simp) ?_
    refine AllReadyH.cons (o := _) rfl (fun K hK => ?_) AllReadyH.nil
    go_simp
    refine hK.out _ _ ?_ (fun hHeld => ?_)
    · (try dsimp only); exact keepT (by with_reducible repeat (first | refine blk_drew ?_ | refine blk_alloc ?_ _ | refine blk_far ?_ N86.out _ | exact B8.out)) (by with_reducible repeat (first | refine blk_drew ?_ | refine blk_alloc ?_ _ | refine blk_far ?_ N96.out _ | exact B9.out))
    clear hK K
    try simp only [Act.put, List.setIfInBounds_toArray, List.set_cons_zero, List.set_cons_succ]
    refine wpAnyH_take (i := 4) (oi := _) (v := ?_) rfl (by kernel_rfl) (by kernel_rfl) (by kernel_rfl) (fun _ _ _ h => h) (Or.inl ⟨by rfl, ?_⟩) (by assumption) ?_
    rotate_left
    · (intro w_ hSw; (try dsimp only at hSw); go_simp; try with_reducible rfl)
    try simp only [Act.put, List.setIfInBounds_toArray, List.set_cons_zero, List.set_cons_succ]
    refine wpAnyH_ready (rs := [5]) (by kernel_rfl) (by simp) ?_
    refine AllReadyH.cons (o := _) rfl (fun K hK => ?_) AllReadyH.nil
    go_simp
    refine hK.out _ _ ?_ (fun hHeld => ?_)
    · (try dsimp only); exact keepT (by with_reducible repeat (first | refine blk_drew ?_ | refine blk_alloc ?_ _ | refine blk_far ?_ N86.out _ | exact B8.out)) (by with_reducible repeat (first | refine blk_drew ?_ | refine blk_alloc ?_ _ | refine blk_far ?_ N96.out _ | exact B9.out))
    clear hK K
    try simp only [Act.put, List.setIfInBounds_toArray, List.set_cons_zero, List.set_cons_succ]
    refine wpAnyH_take (i := 9) (oi := _) (v := ?_) rfl (by kernel_rfl) (by kernel_rfl) (by kernel_rfl) (fun _ _ _ h => h) (Or.inl ⟨by rfl, ?_⟩) (by assumption) ?_
    rotate_left
    · (intro w_ hSw; (try dsimp only at hSw); go_simp; try with_reducible rfl)
    try simp only [Act.put, List.setIfInBounds_toArray, List.set_cons_zero, List.set_cons_succ]
    refine wpAnyH_ready (rs := [10]) (by kernel_rfl) (by simp) ?_
    refine AllReadyH.cons (o := _) rfl (fun K hK => ?_) AllReadyH.nil
    go_simp
    refine hK.out _ _ ?_ (fun hHeld => ?_)
    · (try dsimp only); exact keepT (by with_reducible repeat (first | refine blk_drew ?_ | refine blk_alloc ?_ _ | refine blk_far ?_ N86.out _ | exact B8.out)) (by with_reducible repeat (first | refine blk_drew ?_ | refine blk_alloc ?_ _ | refine blk_far ?_ N96.out _ | exact B9.out))
    clear hK K
    try simp only [Act.put, List.setIfInBounds_toArray, List.set_cons_zero, List.set_cons_succ]
    refine wpAnyH_done (by kernel_rfl) ?_ _
    refine NoPanic.normal ?_
    with_reducible refine at_world (Kx := fun x => Exit.then _ _ _ _ x) (BS.out _ _) ?_
    intro WE hE
    have HE := Aside0.mk hE
    clear hHeld
    clear hE BF BS B8 B9 H6 NX NY FR hjA hjL hjG hjH
    clear d0_ d1_ d2_ d3_ d4_ d5_ d6_ d7_ f0_ f1_ f2_ f3_ f4_ f5_ f6_ f7_
    go_wp2
    refine bodyPost_ret (results_cell_row rfl _ _ g6 26 _ (0, 0) _ rfl HE.out.b6 Tryd.underlying26 rfl (by kernel_rfl)) rfl ?_
    exact ⟨_, _, rfl, HE.out.out⟩
end Go.Proofs.YtccaodehgaaheaaDoor.R
