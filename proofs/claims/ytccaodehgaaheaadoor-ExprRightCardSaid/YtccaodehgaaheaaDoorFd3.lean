/- The feed's numbers: their walk. -/
import Derived.Test.YtccaodehgaaheaaDoorFd2
namespace Go.Proofs.YtccaodehgaaheaaDoor.R
open Go.RowKit Go.Proofs.YtccaodehgaaheaaDoorW.PrintWords Go.Proofs.YtccaodehgaaheaaDoorW.PrintLast Go.Proofs.YtccaodehgaaheaaDoorW.PrintMore
set_option linter.unusedVariables false
set_option linter.unusedSimpArgs false
/-- What a function of the feed is handed. -/
structure FIn (w : World) (g : Nat) (A0 : Option Addr) (c0 : Nat) (A2 : Option Addr) (c2 : Nat) (A1 : Option Addr) (c1 : Nat) (l : List Int) (vars : List Slot) (own : Slot) (many a : Int) : Prop where
  st : w.heap[g]? = some (.cells #[.slice A0 l.length c0, .int .i64 a, .slice A2 vars.length c2, .int .i64 many] 62 (0, 0))
  fl : Kd.F (Kd.int .u8) w (fun k => k ≠ g) A0 l.length l
  fv : Kd.F kSlot w (fun k => k ≠ g) A2 vars.length vars
  fo : Kd.F Kd.string w (fun k => k ≠ g) A1 own.f1.length own.f1
  cap : own.f1.length ≤ c1
  fed : Fed l a
  lim : vars.length < 3518437208882
  few : ∀ s ∈ vars ++ [own], s.f1.length ≤ 100
/-- What it gives back: an expression's kids, the state, the world but for g. -/
structure FOut (w w' : World) (g : Nat) (A0 : Option Addr) (c0 : Nat) (A2 : Option Addr) (c2 : Nat) (l : List Int) (vars : List Slot) (many a' : Int) (x : S26) (A : Option Addr) (c : Nat) : Prop where
  kids : Kd.N k26 26 w' w.heap.size (fun k => w.heap.size ≤ k) (.slice A x.f5.length c) x.f5
  st : w'.heap[g]? = some (.cells #[.slice A0 l.length c0, .int .i64 a', .slice A2 vars.length c2, .int .i64 many] 62 (0, 0))
  kb : Kb g w w'
section
variable {w W W' : World} {g g4 g6 q : Nat} {A0 A2 A1 : Option Addr} {c0 c2 c1 : Nat} {l : List Int} {vars : List Slot} {own : Slot} {many a a' : Int} {cs6 : Array Value}
theorem Frame.input (h : Frame w g g4 g6 A0 c0 A2 c2 A1 c1 l vars own many cs6 a W) (i : FIn w g A0 c0 A2 c2 A1 c1 l vars own many a') (hf : Fed l a) : FIn W g A0 c0 A2 c2 A1 c1 l vars own many a := ⟨h.st, h.fl', h.fv', h.fo', i.cap, hf, i.lim, i.few⟩
theorem Frame.begin {wa : World} (i : FIn w g A0 c0 A2 c2 A1 c1 l vars own many a) (h4 : g4 = w.heap.size) (b4 : wa.heap[g4]? = some (.cells #[.string own.f0, .slice A1 own.f1.length c1] 59 (0, 0))) (hb4 : Below w.heap.size w wa) (h6 : wa.heap.size ≤ g6) (b6 : W.heap[g6]? = some (.cells cs6 26 (0, 0))) (hb6 : Below wa.heap.size wa W) : Frame w g g4 g6 A0 c0 A2 c2 A1 c1 l vars own many cs6 a W := Frame.start i.st i.fl i.fv i.fo h4 b4 hb4 h6 b6 hb6
theorem Frame.out (h : Frame w g g4 g6 A0 c0 A2 c2 A1 c1 l vars own many cs6 a W) {x : S26} {A : Option Addr} {c B : Nat} {ok : Nat → Prop} (hB : w.heap.size ≤ B) (hok : ∀ k, ok k → w.heap.size ≤ k) (hn : Kd.N k26 26 W B ok (.slice A x.f5.length c) x.f5) : FOut w W g A0 c0 A2 c2 l vars many a x A c := ⟨Kd.N_lower (Kd.N_mono hn hok) hB, h.st, h.kb⟩
theorem Frame.outN (h : Frame w g g4 g6 A0 c0 A2 c2 A1 c1 l vars own many cs6 a W) {x : S26} (hx : x.f5 = []) : FOut w W g A0 c0 A2 c2 l vars many a x none 0 := ⟨by rw [hx]; exact Kd.N_nil _ _ _ _ _, h.st, h.kb⟩
theorem Frame.lt4 (h : Frame w g g4 g6 A0 c0 A2 c2 A1 c1 l vars own many cs6 a W) : g4 < W.heap.size := blk_lt h.b4
theorem Frame.lt6 (h : Frame w g g4 g6 A0 c0 A2 c2 A1 c1 l vars own many cs6 a W) : g6 < W.heap.size := blk_lt h.b6
end
section
variable {α : Type} {d : Kd α} {e base lo hi q : Nat} {W W' : World} {v : Value} {xs : List α} {ok okp : Nat → Prop} {inner : List Value}
/-- A row that was made between two sizes stays, over a store elsewhere. -/
theorem N_kb (h : Kd.N d e W base (fun k => lo ≤ k ∧ k < hi) v xs) (hk : Kb q W W') (hq : q < lo ∨ hi ≤ q) : Kd.N d e W' base (fun k => lo ≤ k ∧ k < hi) v xs := Kd.N_step h (fun k hk' hlt => hk.block k hlt (by omega))
theorem N_made_between (h : Kd.N d e W base (fun k => lo ≤ k) v xs) : Kd.N d e W base (fun k => lo ≤ k ∧ k < W.heap.size) v xs := Kd.N_bound h
/-- A literal just laid. -/
theorem N_new (hrep : Reps (Kd.FK d W okp) d.sz xs inner) (hok : ∀ k, okp k → ok k) (hfresh : ok W.heap.size) (hm : xs.length ≤ 9223372036854775807) : Kd.N d e (W.alloc (.cells inner.toArray e)) W.heap.size ok (.slice (some ⟨W.heap.size, 0, none⟩) xs.length xs.length) xs := by
  have hr := Kd.reps_raw hrep (fun y c hk => ⟨d.K_len (Kd.FK_now hk), d.K_one (Kd.FK_now hk)⟩)
  refine Kd.N_made (rows := Kd.chunks d.sz xs.length inner) (okp := okp) ⟨fun k hk => ?_, inner, ?_, ?_⟩ (World.grownBy_alloc W _ none) ⟨W.heap.size, by simp [Value.ownBlock], Nat.le_refl _⟩ (Kd.chunks_length _ _ _) (fun j y c hy hc => by rw [Kd.chunks_get hc]; exact hrep.2 j y hy) hok hfresh
  · have : W.heap.size = k := by simpa [Value.ownBlock] using hk
    exact this.symm
  · have h2 := World.ownsRow_lit (base := W.heap.size) (e := e) (size := d.sz) W inner.toArray xs.length (Nat.le_refl _) (by simpa [maxLen] using hm) (by simpa using hrep.1)
    rw [Kd.chunks_length]
    refine (?_ : (W.alloc (.cells inner.toArray e)).ownsRow W.heap.size e d.sz (.slice (some ⟨W.heap.size, 0, none⟩) xs.length xs.length) xs.length inner)
    simpa using h2
  · exact hr
end
section
variable {W : World} {ok : Nat → Prop} {x y : S26} {A A' : Option Addr} {c c' : Nat}
theorem fk_of (h : Kd.F k26 W ok A x.f5.length x.f5) (hle : x.f5.length ≤ c) : Kd.FK k26 W ok x [.int .i64 x.f0, .string x.f1, .int .i64 x.f2.f0, .int .i64 x.f2.f1, .string x.f2.f2, .string x.f3, .string x.f4, .slice A x.f5.length c] := k26_mkF W ok x hle h
theorem reps1 (h : Kd.FK k26 W ok x [.int .i64 x.f0, .string x.f1, .int .i64 x.f2.f0, .int .i64 x.f2.f1, .string x.f2.f2, .string x.f3, .string x.f4, .slice A x.f5.length c]) : Reps (Kd.FK k26 W ok) (k26 : Kd S26).sz [x] [.int .i64 x.f0, .string x.f1, .int .i64 x.f2.f0, .int .i64 x.f2.f1, .string x.f2.f2, .string x.f3, .string x.f4, .slice A x.f5.length c] := (Reps.none _ _).snoc h rfl
theorem reps2 (h : Kd.FK k26 W ok x [.int .i64 x.f0, .string x.f1, .int .i64 x.f2.f0, .int .i64 x.f2.f1, .string x.f2.f2, .string x.f3, .string x.f4, .slice A x.f5.length c]) (h' : Kd.FK k26 W ok y [.int .i64 y.f0, .string y.f1, .int .i64 y.f2.f0, .int .i64 y.f2.f1, .string y.f2.f2, .string y.f3, .string y.f4, .slice A' y.f5.length c']) :
    Reps (Kd.FK k26 W ok) (k26 : Kd S26).sz [x, y] [.int .i64 x.f0, .string x.f1, .int .i64 x.f2.f0, .int .i64 x.f2.f1, .string x.f2.f2, .string x.f3, .string x.f4, .slice A x.f5.length c, .int .i64 y.f0, .string y.f1, .int .i64 y.f2.f0, .int .i64 y.f2.f1, .string y.f2.f2, .string y.f3, .string y.f4, .slice A' y.f5.length c'] := ((Reps.none _ _).snoc h rfl).snoc h' rfl
end
theorem one8' (x : S26) (A : Option Addr) (c : Nat) : (#[.int .i64 x.f0, .string x.f1, .int .i64 x.f2.f0, .int .i64 x.f2.f1, .string x.f2.f2, .string x.f3, .string x.f4, .slice A x.f5.length c] : Array Value).all (·.oneCell') = true := one8 _ _ _ _ _ _ _ _ _ _
theorem ofF_kids (l : List Int) (a : Int) (vars : List Slot) (own : Slot) (fields : ByteArray) (other : S23) : (ofF l a vars own fields other).1.f5 = [] := by
  unfold ofF
  simp only
  split <;> rfl
set_option maxHeartbeats 8000000 in
set_option maxRecDepth 100000 in
theorem number_lit (d : Int) (g : Nat) (A0 : Option Addr) (c0 : Nat) (A2 : Option Addr) (c2 : Nat) (A1 : Option Addr) (c1 : Nat) (l : List Int) (vars : List Slot) (own : Slot) (a many : Int) (w : World) (hin : FIn w g A0 c0 A2 c2 A1 c1 l vars own many a) (hm : Int.tmod (nx l a).1 8 < 3) :
    Calls Tryd.prog 30 #[.pointer (some ⟨g, 0, none⟩), .agg #[.string own.f0, .slice A1 own.f1.length c1], .int .i64 d] w fun e w' => ∃ A c, e = .returned (EV (litE ⟨1, rd numsL (Int.tmod (Int.tdiv (nx l a).1 8) 6), ⟨#[]⟩⟩) (.slice A ((litE ⟨1, rd numsL (Int.tmod (Int.tdiv (nx l a).1 8) 6), ⟨#[]⟩⟩)).f5.length c)) ∧ FOut w w' g A0 c0 A2 c2 l vars many (nx l a).2 (litE ⟨1, rd numsL (Int.tmod (Int.tdiv (nx l a).1 8) 6), ⟨#[]⟩⟩) A c := by
  have hu26 := Tryd.underlying26
  have hu59 := Tryd.underlying59
  have hu23 := Tryd.underlying23
  have HIN := Aside0.mk hin
  have hb := hin.fed.byte
  have HN := Lib.hid (fun wc hs hfl => feed_next g A0 c0 (.slice A2 vars.length c2) l a many wc hs hfl hin.fed)
  have HFN := Aside0.mk hin.fed.next
  have HIO := Aside0.mk hin
  generalize (nx l a).1 = b at HN hb hm ⊢
  generalize (nx l a).2 = a2 at HN HFN ⊢
  clear hin
  obtain ⟨hb0, hb1⟩ := hb
  obtain ⟨m, hmm⟩ : ∃ m, Int.tmod b 8 = m := ⟨_, rfl⟩
  have hme : b % 8 = m := by rw [← Int.tmod_eq_emod_of_nonneg hb0]; exact hmm
  rw [hmm] at hm
  have HMM := Aside0.mk hmm
  clear hmm
  obtain ⟨q, hq⟩ : ∃ q, Int.tdiv b 8 = q := ⟨_, rfl⟩
  have hqe : b / 8 = q := by rw [← Int.tdiv_eq_ediv_of_nonneg hb0]; exact hq
  have hq0 : 0 ≤ q := by omega
  have hwq : IntKind.i64.wrap q = q := by rw [i64_w]; unfold wrap64; omega
  rw [hq]
  clear hq
  obtain ⟨j, hj⟩ : ∃ j, Int.tmod q 6 = j := ⟨_, rfl⟩
  have hje : q % 6 = j := by rw [← Int.tmod_eq_emod_of_nonneg hq0]; exact hj
  rw [hj]
  clear hj
  have hj0 : 0 ≤ j := by omega
  have hj1 : j < 6 := by omega
  have pj0 : (0 ≤ j) = True := eq_true hj0
  have pj1 : (j < 6) = True := eq_true hj1
  have hlen : numsL.length = 6 := rfl
  go_enter Tryd.func30, Tryd.ntmps30
  go_wp2_with (first
    | ((with_reducible refine gate_dst (N := 4) rfl ?_); refine box_event ?hg (N := 4) ?hd (cs := #[.string own.f0, .slice A1 own.f1.length c1]) (t := 59) ?hr ?_; (case hd => rfl); (case hg => rfl); (case hr => first | (go_simp; done) | (go_simp; rfl)); intro g4 e4 wa hbox hb4; have BK4 := Aside0.mk hbox; have E4 := Aside0.mk e4; have HWA := Aside0.mk hb4; clear hbox e4 hb4)
    | ((with_reducible refine gate_dst (N := 6) rfl ?_); refine box_event ?hg (N := 6) ?hd (cs := #[.int .i64 0, .string ⟨#[]⟩, .int .i64 0, .int .i64 0, .string ⟨#[]⟩, .string ⟨#[]⟩, .string ⟨#[]⟩, .slice none 0 0]) (t := 26) ?hr ?_; (case hd => rfl); (case hg => rfl); (case hr => first | (go_simp; done) | (go_simp; rfl)); intro g6 e6 wb hbox hb6; have FR := Aside0.mk (Frame.begin HIN.out E4.out BK4.out HWA.out (Nat.le_of_eq e6.symm) hbox hb6); clear hbox e6 hb6 BK4 E4 HWA)
    | (go_at_call 29; refine (HN.out wb FR.out.st FR.out.fl').mono ?_; rintro e w1 ⟨rfl, hst, hk⟩; replace FR := Aside0.mk (FR.out.turn hst hk); clear hst hk HN; have hc40 : w1.cell? ⟨g4, 0, none⟩ = some (.string own.f0) := (blk_cell FR.out.b4 0).trans rfl)
    | ((with_reducible refine gate_dst (N := 16) rfl ?_); refine Kd.R_lit (Kd.int .i64) _ 2 ?hg (N := 16) ?hd (xs := numsL) (inner := [.int .i64 0, .int .i64 1, .int .i64 2, .int .i64 3, .int .i64 5, .int .i64 9223372036854775807]) (ok := fun _ => True) (okp := fun _ => True) ?hr ?hp (fun _ hk => hk) trivial (Below.refl _ _) (Nat.le_refl _) (by decide) ?_; (case hd => rfl); (case hg => rfl); (case hr => first | (go_simp; done) | (go_simp; rfl)); (case hp => exact (Reps.one rfl (Reps.one rfl (Reps.one rfl (Reps.one rfl (Reps.one rfl (Reps.one rfl (Reps.none _ _)))))))); intro v_ wl ho hbl hg_ hn_; clear hg_ hn_; replace FR := Aside0.mk (FR.out.grow hbl); obtain ⟨Ao, co, eo⟩ := Kd.R_slice ho; subst eo; obtain ⟨ad, eA, hx⟩ := Kd.at_int (Kd.R_reads' ho).2.2 j hj0 hj1; subst eA; clear ho hbl)
    | ((with_reducible refine gate_store (t := 26) (p := 6) rfl ?_); refine ev_store rfl rfl 26 6 (.tmp 23) rfl g6 #[.int .i64 0, .string ⟨#[]⟩, .int .i64 1, .int .i64 (rd numsL j), .string ⟨#[]⟩, .string ⟨#[]⟩, .string ⟨#[]⟩, .slice none 0 0] (by rfl) (by rfl) 26 _ FR.out.b6 (by kernel_rfl) rfl (one8 _ _ _ _ _ _ _ _ _ _) ?_; intro wz hbz hkz; replace FR := Aside0.mk (FR.out.result hbz hkz); clear hbz hkz))
  refine bodyPost_ret (results_cell_row rfl _ _ g6 26 _ (0, 0) _ rfl FR.out.b6 Tryd.underlying26 rfl (by kernel_rfl)) rfl ?_
  exact ⟨none, 0, rfl, FR.out.outN rfl⟩

set_option maxHeartbeats 8000000 in
set_option maxRecDepth 100000 in
theorem number_of (d : Int) (g : Nat) (A0 : Option Addr) (c0 : Nat) (A2 : Option Addr) (c2 : Nat) (A1 : Option Addr) (c1 : Nat) (l : List Int) (vars : List Slot) (own : Slot) (a many : Int) (w : World) (hin : FIn w g A0 c0 A2 c2 A1 c1 l vars own many a) (hm : ¬ Int.tmod (nx l a).1 8 < 3) (hm2 : Int.tmod (nx l a).1 8 < 5 ∨ d < 1) :
    Calls Tryd.prog 30 #[.pointer (some ⟨g, 0, none⟩), .agg #[.string own.f0, .slice A1 own.f1.length c1], .int .i64 d] w fun e w' => ∃ A c, e = .returned (EV (ofF l (nx l a).2 vars own ⟨#[107, 120, 121]⟩ ⟨1, 1, ⟨#[]⟩⟩).1 (.slice A ((ofF l (nx l a).2 vars own ⟨#[107, 120, 121]⟩ ⟨1, 1, ⟨#[]⟩⟩).1).f5.length c)) ∧ FOut w w' g A0 c0 A2 c2 l vars many (ofF l (nx l a).2 vars own ⟨#[107, 120, 121]⟩ ⟨1, 1, ⟨#[]⟩⟩).2 (ofF l (nx l a).2 vars own ⟨#[107, 120, 121]⟩ ⟨1, 1, ⟨#[]⟩⟩).1 A c := by
  have hu26 := Tryd.underlying26
  have hu59 := Tryd.underlying59
  have hu23 := Tryd.underlying23
  have HIN := Aside0.mk hin
  have hb := hin.fed.byte
  have HN := Lib.hid (fun wc hs hfl => feed_next g A0 c0 (.slice A2 vars.length c2) l a many wc hs hfl hin.fed)
  have HFN := Aside0.mk hin.fed.next
  have HIO := Aside0.mk hin
  generalize (nx l a).1 = b at HN hb hm hm2 ⊢
  generalize (nx l a).2 = a2 at HN HFN ⊢
  clear hin
  obtain ⟨hb0, hb1⟩ := hb
  obtain ⟨m, hmm⟩ : ∃ m, Int.tmod b 8 = m := ⟨_, rfl⟩
  have hme : b % 8 = m := by rw [← Int.tmod_eq_emod_of_nonneg hb0]; exact hmm
  rw [hmm] at hm hm2
  have HMM := Aside0.mk hmm
  clear hmm
  have hkids := ofF_kids l a2 vars own ⟨#[107, 120, 121]⟩ ⟨1, 1, ⟨#[]⟩⟩
  have HOF := Lib.hid (fun W (i : FIn W g A0 c0 A2 c2 A1 c1 l vars own many a2) => feed_of g A0 c0 A2 c2 A1 c1 l vars own a2 many ⟨#[107, 120, 121]⟩ ⟨1, 1, ⟨#[]⟩⟩ W i.st i.fl i.fv i.fo i.cap i.fed i.lim (by decide) i.few)
  generalize ofF l a2 vars own ⟨#[107, 120, 121]⟩ ⟨1, 1, ⟨#[]⟩⟩ = R at HOF hkids ⊢
  obtain ⟨X, a3⟩ := R
  dsimp only at HOF hkids ⊢
  replace hkids := Aside0.mk hkids
  have d1 : decide (m < 3) = false := decide_eq_false hm
  have hcase : m < 5 ∨ (¬ m < 5 ∧ d < 1) := by omega
  clear hm hm2
  rcases hcase with h5 | ⟨h5, h6⟩
  all_goals
    go_enter Tryd.func30, Tryd.ntmps30
    go_wp2_with (first
      | ((with_reducible refine gate_dst (N := 4) rfl ?_); refine box_event ?hg (N := 4) ?hd (cs := #[.string own.f0, .slice A1 own.f1.length c1]) (t := 59) ?hr ?_; (case hd => rfl); (case hg => rfl); (case hr => first | (go_simp; done) | (go_simp; rfl)); intro g4 e4 wa hbox hb4; have BK4 := Aside0.mk hbox; have E4 := Aside0.mk e4; have HWA := Aside0.mk hb4; clear hbox e4 hb4)
      | ((with_reducible refine gate_dst (N := 6) rfl ?_); refine box_event ?hg (N := 6) ?hd (cs := #[.int .i64 0, .string ⟨#[]⟩, .int .i64 0, .int .i64 0, .string ⟨#[]⟩, .string ⟨#[]⟩, .string ⟨#[]⟩, .slice none 0 0]) (t := 26) ?hr ?_; (case hd => rfl); (case hg => rfl); (case hr => first | (go_simp; done) | (go_simp; rfl)); intro g6 e6 wb hbox hb6; have FR := Aside0.mk (Frame.begin HIN.out E4.out BK4.out HWA.out (Nat.le_of_eq e6.symm) hbox hb6); clear hbox e6 hb6 BK4 E4 HWA)
      | (go_at_call 29; refine (HN.out wb FR.out.st FR.out.fl').mono ?_; rintro e w1 ⟨rfl, hst, hk⟩; replace FR := Aside0.mk (FR.out.turn hst hk); clear hst hk HN; have hc40 : w1.cell? ⟨g4, 0, none⟩ = some (.string own.f0) := (blk_cell FR.out.b4 0).trans rfl)
      | ((with_reducible refine gate_dst (N := 33) rfl ?_); refine wpList_load_row rfl 59 (.tmp 4) rfl g4 (by rfl) 59 _ (0, 0) _ FR.out.b4 Tryd.underlying59 rfl (by kernel_rfl) ?_)
      | (go_at_call 47; refine (HOF.out w1 (FR.out.input HIO.out HFN.out)).mono ?_; rintro e w2 ⟨rfl, hst, hk⟩; replace FR := Aside0.mk (FR.out.turn hst hk); clear hst hk HOF)
      | ((with_reducible refine gate_store (t := 26) (p := 6) rfl ?_); refine ev_store rfl rfl 26 6 (.tmp 35) rfl g6 #[.int .i64 X.f0, .string X.f1, .int .i64 X.f2.f0, .int .i64 X.f2.f1, .string X.f2.f2, .string X.f3, .string X.f4, .slice none 0 0] (by rfl) (by rfl) 26 _ FR.out.b6 (by kernel_rfl) rfl (one8 _ _ _ _ _ _ _ _ _ _) ?_; intro wz hbz hkz; replace FR := Aside0.mk (FR.out.result hbz hkz); clear hbz hkz))
    refine bodyPost_ret (results_cell_row rfl _ _ g6 26 _ (0, 0) _ rfl FR.out.b6 Tryd.underlying26 rfl (by kernel_rfl)) rfl ?_
    exact ⟨none, 0, by rw [hkids.out]; rfl, FR.out.outN hkids.out⟩

set_option maxHeartbeats 8000000 in
set_option maxRecDepth 100000 in
theorem number_count (d : Int) (g : Nat) (A0 : Option Addr) (c0 : Nat) (A2 : Option Addr) (c2 : Nat) (A1 : Option Addr) (c1 : Nat) (l : List Int) (vars : List Slot) (own : Slot) (a many : Int) (w : World) (hin : FIn w g A0 c0 A2 c2 A1 c1 l vars own many a) (hm : Int.tmod (nx l a).1 8 = 5) (hd : ¬ d < 1) :
    Calls Tryd.prog 30 #[.pointer (some ⟨g, 0, none⟩), .agg #[.string own.f0, .slice A1 own.f1.length c1], .int .i64 d] w fun e w' => ∃ A c, e = .returned (EV (cntE own.f0) (.slice A ((cntE own.f0)).f5.length c)) ∧ FOut w w' g A0 c0 A2 c2 l vars many (nx l a).2 (cntE own.f0) A c := by
  have hu26 := Tryd.underlying26
  have hu59 := Tryd.underlying59
  have hu23 := Tryd.underlying23
  have HIN := Aside0.mk hin
  have hb := hin.fed.byte
  have HN := Lib.hid (fun wc hs hfl => feed_next g A0 c0 (.slice A2 vars.length c2) l a many wc hs hfl hin.fed)
  have HFN := Aside0.mk hin.fed.next
  have HIO := Aside0.mk hin
  generalize (nx l a).1 = b at HN hb hm ⊢
  generalize (nx l a).2 = a2 at HN HFN ⊢
  clear hin
  obtain ⟨hb0, hb1⟩ := hb
  obtain ⟨m, hmm⟩ : ∃ m, Int.tmod b 8 = m := ⟨_, rfl⟩
  have hme : b % 8 = m := by rw [← Int.tmod_eq_emod_of_nonneg hb0]; exact hmm
  rw [hmm] at hm
  have HMM := Aside0.mk hmm
  clear hmm
  subst hm
  go_enter Tryd.func30, Tryd.ntmps30
  go_wp2_with (first
    | ((with_reducible refine gate_dst (N := 4) rfl ?_); refine box_event ?hg (N := 4) ?hd (cs := #[.string own.f0, .slice A1 own.f1.length c1]) (t := 59) ?hr ?_; (case hd => rfl); (case hg => rfl); (case hr => first | (go_simp; done) | (go_simp; rfl)); intro g4 e4 wa hbox hb4; have BK4 := Aside0.mk hbox; have E4 := Aside0.mk e4; have HWA := Aside0.mk hb4; clear hbox e4 hb4)
    | ((with_reducible refine gate_dst (N := 6) rfl ?_); refine box_event ?hg (N := 6) ?hd (cs := #[.int .i64 0, .string ⟨#[]⟩, .int .i64 0, .int .i64 0, .string ⟨#[]⟩, .string ⟨#[]⟩, .string ⟨#[]⟩, .slice none 0 0]) (t := 26) ?hr ?_; (case hd => rfl); (case hg => rfl); (case hr => first | (go_simp; done) | (go_simp; rfl)); intro g6 e6 wb hbox hb6; have FR := Aside0.mk (Frame.begin HIN.out E4.out BK4.out HWA.out (Nat.le_of_eq e6.symm) hbox hb6); clear hbox e6 hb6 BK4 E4 HWA)
    | (go_at_call 29; refine (HN.out wb FR.out.st FR.out.fl').mono ?_; rintro e w1 ⟨rfl, hst, hk⟩; replace FR := Aside0.mk (FR.out.turn hst hk); clear hst hk HN; have hc40 : w1.cell? ⟨g4, 0, none⟩ = some (.string own.f0) := (blk_cell FR.out.b4 0).trans rfl)
    | ((with_reducible refine gate_store (t := 26) (p := 6) rfl ?_); refine ev_store rfl rfl 26 6 (.tmp 42) rfl g6 #[.int .i64 2, .string ⟨#[]⟩, .int .i64 0, .int .i64 0, .string ⟨#[]⟩, .string own.f0, .string ⟨#[]⟩, .slice none 0 0] (by rfl) (by rfl) 26 _ FR.out.b6 (by kernel_rfl) rfl (one8 _ _ _ _ _ _ _ _ _ _) ?_; intro wz hbz hkz; replace FR := Aside0.mk (FR.out.result hbz hkz); clear hbz hkz))
  refine bodyPost_ret (results_cell_row rfl _ _ g6 26 _ (0, 0) _ rfl FR.out.b6 Tryd.underlying26 rfl (by kernel_rfl)) rfl ?_
  exact ⟨none, 0, rfl, FR.out.outN rfl⟩

set_option maxHeartbeats 8000000 in
set_option maxRecDepth 100000 in
theorem number_un (d d' : Int) (hdd : IntKind.i64.wrap (d - 1) = d') (g : Nat) (A0 : Option Addr) (c0 : Nat) (A2 : Option Addr) (c2 : Nat) (A1 : Option Addr) (c1 : Nat) (l : List Int) (vars : List Slot) (own : Slot) (a many : Int) (w : World) (hin : FIn w g A0 c0 A2 c2 A1 c1 l vars own many a) (X1 : S26) (a3 : Int) (hrec : ∀ W, FIn W g A0 c0 A2 c2 A1 c1 l vars own many (nx l a).2 → Calls Tryd.prog 30 #[.pointer (some ⟨g, 0, none⟩), .agg #[.string own.f0, .slice A1 own.f1.length c1], .int .i64 d'] W fun e w' => ∃ A c, e = .returned (EV X1 (.slice A (X1).f5.length c)) ∧ FOut W w' g A0 c0 A2 c2 l vars many a3 X1 A c) (hm : Int.tmod (nx l a).1 8 = 6) (hd : ¬ d < 1) :
    Calls Tryd.prog 30 #[.pointer (some ⟨g, 0, none⟩), .agg #[.string own.f0, .slice A1 own.f1.length c1], .int .i64 d] w fun e w' => ∃ A c, e = .returned (EV (unE ⟨#[45]⟩ X1) (.slice A ((unE ⟨#[45]⟩ X1)).f5.length c)) ∧ FOut w w' g A0 c0 A2 c2 l vars many a3 (unE ⟨#[45]⟩ X1) A c := by
  have HREC := Lib.hid hrec
  clear hrec
  have hu26 := Tryd.underlying26
  have hu59 := Tryd.underlying59
  have hu23 := Tryd.underlying23
  have HIN := Aside0.mk hin
  have hb := hin.fed.byte
  have HN := Lib.hid (fun wc hs hfl => feed_next g A0 c0 (.slice A2 vars.length c2) l a many wc hs hfl hin.fed)
  have HFN := Aside0.mk hin.fed.next
  have HIO := Aside0.mk hin
  generalize (nx l a).1 = b at HN hb hm ⊢
  generalize (nx l a).2 = a2 at HN HFN HREC ⊢
  clear hin
  obtain ⟨hb0, hb1⟩ := hb
  obtain ⟨m, hmm⟩ : ∃ m, Int.tmod b 8 = m := ⟨_, rfl⟩
  have hme : b % 8 = m := by rw [← Int.tmod_eq_emod_of_nonneg hb0]; exact hmm
  rw [hmm] at hm
  have HMM := Aside0.mk hmm
  clear hmm
  subst hm
  go_enter Tryd.func30, Tryd.ntmps30
  go_wp2_with (first
    | ((with_reducible refine gate_dst (N := 4) rfl ?_); refine box_event ?hg (N := 4) ?hd (cs := #[.string own.f0, .slice A1 own.f1.length c1]) (t := 59) ?hr ?_; (case hd => rfl); (case hg => rfl); (case hr => first | (go_simp; done) | (go_simp; rfl)); intro g4 e4 wa hbox hb4; have BK4 := Aside0.mk hbox; have E4 := Aside0.mk e4; have HWA := Aside0.mk hb4; clear hbox e4 hb4)
    | ((with_reducible refine gate_dst (N := 6) rfl ?_); refine box_event ?hg (N := 6) ?hd (cs := #[.int .i64 0, .string ⟨#[]⟩, .int .i64 0, .int .i64 0, .string ⟨#[]⟩, .string ⟨#[]⟩, .string ⟨#[]⟩, .slice none 0 0]) (t := 26) ?hr ?_; (case hd => rfl); (case hg => rfl); (case hr => first | (go_simp; done) | (go_simp; rfl)); intro g6 e6 wb hbox hb6; have FR := Aside0.mk (Frame.begin HIN.out E4.out BK4.out HWA.out (Nat.le_of_eq e6.symm) hbox hb6); clear hbox e6 hb6 BK4 E4 HWA)
    | (go_at_call 29; refine (HN.out wb FR.out.st FR.out.fl').mono ?_; rintro e w1 ⟨rfl, hst, hk⟩; replace FR := Aside0.mk (FR.out.turn hst hk); clear hst hk HN; have hc40 : w1.cell? ⟨g4, 0, none⟩ = some (.string own.f0) := (blk_cell FR.out.b4 0).trans rfl; have HW1 := Aside0.mk (show w.heap.size ≤ w1.heap.size ∧ g4 < w1.heap.size ∧ g6 < w1.heap.size ∧ g < w.heap.size from ⟨FR.out.kb.size, FR.out.lt4, FR.out.lt6, FR.out.glt⟩))
    | ((with_reducible refine gate_dst (N := 48) rfl ?_); refine wpList_load_row rfl 59 (.tmp 4) rfl g4 (by rfl) 59 _ (0, 0) _ FR.out.b4 Tryd.underlying59 rfl (by kernel_rfl) ?_)
    | (go_at_call 30; refine (HREC.out w1 (FR.out.input HIO.out HFN.out)).mono ?_; rintro e w2 ⟨A3, c3, rfl, ho3⟩; have Hw2 := Aside0.mk (show w1.heap.size ≤ w2.heap.size from ho3.kb.size); have NX := Aside0.mk (N_made_between ho3.kids); replace FR := Aside0.mk (FR.out.turn ho3.st ho3.kb); clear ho3 HREC)
    | ((with_reducible refine gate_dst (N := 52) rfl ?_); refine Kd.N_lit k26 _ 26 ?hg (N' := 52) ?hd (xs := [X1]) (inner := [.int .i64 X1.f0, .string X1.f1, .int .i64 X1.f2.f0, .int .i64 X1.f2.f1, .string X1.f2.f2, .string X1.f3, .string X1.f4, .slice A3 X1.f5.length c3]) (ok := fun k => w1.heap.size ≤ k) (okp := fun k => w1.heap.size ≤ k ∧ k < w2.heap.size) ?hr (reps1 (fk_of (Kd.N_F NX.out) (Kd.N_reads' NX.out).2.1)) (fun _ h => h.1) Hw2.out (Below.refl _ _) (Nat.le_refl _) (by simp) ?_; (case hd => rfl); (case hg => rfl); (case hr => first | (go_simp; done) | (go_simp; rfl)); intro vL wL ho hbl hg_ hn_; clear hg_ hn_; replace FR := Aside0.mk (FR.out.grow hbl); obtain ⟨AL, cL, eL⟩ := Kd.N_slice ho; subst eL; have HNL := Aside0.mk ho; clear ho hbl)
    | ((with_reducible refine gate_store (t := 26) (p := 6) rfl ?_); refine ev_store rfl rfl 26 6 (.tmp 53) rfl g6 #[.int .i64 3, .string ⟨#[45]⟩, .int .i64 0, .int .i64 0, .string ⟨#[]⟩, .string ⟨#[]⟩, .string ⟨#[]⟩, .slice AL [X1].length cL] (by rfl) (by rfl) 26 _ FR.out.b6 (by kernel_rfl) rfl (one8 _ _ _ _ _ _ _ _ _ _) ?_; intro wz hbz hkz; have HNZ := Aside0.mk (Kd.N_step HNL.out (fun k hk hlt => hkz.block k hlt (by have h1_ := HW1.out; omega))); replace FR := Aside0.mk (FR.out.result hbz hkz); clear hbz hkz))
  refine bodyPost_ret (results_cell_row rfl _ _ g6 26 _ (0, 0) _ rfl FR.out.b6 Tryd.underlying26 rfl (by kernel_rfl)) rfl ?_
  exact ⟨AL, cL, rfl, FR.out.out (x := unE ⟨#[45]⟩ X1) (B := w2.heap.size) (ok := fun k => w1.heap.size ≤ k) (by have h1_ := HW1.out; have h2_ := Hw2.out; omega) (fun k hk => (by have h1_ := HW1.out; omega)) HNZ.out⟩
end Go.Proofs.YtccaodehgaaheaaDoor.R
