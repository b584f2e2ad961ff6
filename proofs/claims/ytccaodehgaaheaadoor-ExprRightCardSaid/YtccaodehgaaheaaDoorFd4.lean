/- The feed's texts: their walk. -/
import Derived.Test.YtccaodehgaaheaaDoorFd3
namespace Go.Proofs.YtccaodehgaaheaaDoor.R
open Go.RowKit Go.Proofs.YtccaodehgaaheaaDoorW.PrintWords Go.Proofs.YtccaodehgaaheaaDoorW.PrintLast Go.Proofs.YtccaodehgaaheaaDoorW.PrintMore
set_option linter.unusedVariables false
set_option linter.unusedSimpArgs false
set_option maxHeartbeats 8000000 in
set_option maxRecDepth 100000 in
theorem text_lit (d : Int) (g : Nat) (A0 : Option Addr) (c0 : Nat) (A2 : Option Addr) (c2 : Nat) (A1 : Option Addr) (c1 : Nat) (l : List Int) (vars : List Slot) (own : Slot) (a many : Int) (w : World) (hin : FIn w g A0 c0 A2 c2 A1 c1 l vars own many a) (hm : Int.tmod (nx l a).1 4 = 0) :
    Calls Tryd.prog 31 #[.pointer (some ⟨g, 0, none⟩), .agg #[.string own.f0, .slice A1 own.f1.length c1], .int .i64 d] w fun e w' => ∃ A c, e = .returned (EV (litE ⟨3, 0, rdOf ByteArray.empty wordsL (Int.tmod (Int.tdiv (nx l a).1 4) 4)⟩) (.slice A ((litE ⟨3, 0, rdOf ByteArray.empty wordsL (Int.tmod (Int.tdiv (nx l a).1 4) 4)⟩)).f5.length c)) ∧ FOut w w' g A0 c0 A2 c2 l vars many (nx l a).2 (litE ⟨3, 0, rdOf ByteArray.empty wordsL (Int.tmod (Int.tdiv (nx l a).1 4) 4)⟩) A c := by
  have hu26 := Tryd.underlying26
  have hu59 := Tryd.underlying59
  have hu23 := Tryd.underlying23
  have HIN := Aside0.mk hin
  have hb := hin.fed.byte
  have HN := Lib.hid (fun wc hs hfl => feed_next g A0 c0 (.slice A2 vars.length c2) l a many wc hs hfl hin.fed)
  have HFN := Aside0.mk hin.fed.next
  have HIO := Aside0.mk hin
  generalize (nx l a).1 = b at HN hb hm ⊢
  generalize (nx l a).2 = a2 at HN HFN ⊢
  clear hin
  obtain ⟨hb0, hb1⟩ := hb
  obtain ⟨m, hmm⟩ : ∃ m, Int.tmod b 4 = m := ⟨_, rfl⟩
  have hme : b % 4 = m := by rw [← Int.tmod_eq_emod_of_nonneg hb0]; exact hmm
  rw [hmm] at hm
  have HMM := Aside0.mk hmm
  clear hmm
  subst hm
  obtain ⟨q, hq⟩ : ∃ q, Int.tdiv b 4 = q := ⟨_, rfl⟩
  have hqe : b / 4 = q := by rw [← Int.tdiv_eq_ediv_of_nonneg hb0]; exact hq
  have hq0 : 0 ≤ q := by omega
  have hwq : IntKind.i64.wrap q = q := by rw [i64_w]; unfold wrap64; omega
  rw [hq]
  clear hq
  obtain ⟨j, hj⟩ : ∃ j, Int.tmod q 4 = j := ⟨_, rfl⟩
  have hje : q % 4 = j := by rw [← Int.tmod_eq_emod_of_nonneg hq0]; exact hj
  rw [hj]
  clear hj
  have hj0 : 0 ≤ j := by omega
  have hj1 : j < 4 := by omega
  have pj0 : (0 ≤ j) = True := eq_true hj0
  have pj1 : (j < 4) = True := eq_true hj1
  have hlen : wordsL.length = 4 := rfl
  go_enter Tryd.func31, Tryd.ntmps31
  go_wp2_with (first
    | ((with_reducible refine gate_dst (N := 4) rfl ?_); refine box_event ?hg (N := 4) ?hd (cs := #[.string own.f0, .slice A1 own.f1.length c1]) (t := 59) ?hr ?_; (case hd => rfl); (case hg => rfl); (case hr => first | (go_simp; done) | (go_simp; rfl)); intro g4 e4 wa hbox hb4; have BK4 := Aside0.mk hbox; have E4 := Aside0.mk e4; have HWA := Aside0.mk hb4; clear hbox e4 hb4)
    | ((with_reducible refine gate_dst (N := 6) rfl ?_); refine box_event ?hg (N := 6) ?hd (cs := #[.int .i64 0, .string ⟨#[]⟩, .int .i64 0, .int .i64 0, .string ⟨#[]⟩, .string ⟨#[]⟩, .string ⟨#[]⟩, .slice none 0 0]) (t := 26) ?hr ?_; (case hd => rfl); (case hg => rfl); (case hr => first | (go_simp; done) | (go_simp; rfl)); intro g6 e6 wb hbox hb6; have FR := Aside0.mk (Frame.begin HIN.out E4.out BK4.out HWA.out (Nat.le_of_eq e6.symm) hbox hb6); clear hbox e6 hb6 BK4 E4 HWA)
    | (go_at_call 29; refine (HN.out wb FR.out.st FR.out.fl').mono ?_; rintro e w1 ⟨rfl, hst, hk⟩; replace FR := Aside0.mk (FR.out.turn hst hk); clear hst hk HN; have hc40 : w1.cell? ⟨g4, 0, none⟩ = some (.string own.f0) := (blk_cell FR.out.b4 0).trans rfl)
    | ((with_reducible refine gate_dst (N := 16) rfl ?_); refine Kd.R_lit Kd.string _ 9 ?hg (N := 16) ?hd (xs := wordsL) (inner := [.string ⟨#[]⟩, .string ⟨#[97]⟩, .string ⟨#[98]⟩, .string ⟨#[120, 32, 121]⟩]) (ok := fun _ => True) (okp := fun _ => True) ?hr ?hp (fun _ hk => hk) trivial (Below.refl _ _) (Nat.le_refl _) (by decide) ?_; (case hd => rfl); (case hg => rfl); (case hr => first | (go_simp; done) | (go_simp; rfl)); (case hp => exact (Reps.one rfl (Reps.one rfl (Reps.one rfl (Reps.one rfl (Reps.none _ _)))))); intro v_ wl ho hbl hg_ hn_; clear hg_ hn_; replace FR := Aside0.mk (FR.out.grow hbl); obtain ⟨Ao, co, eo⟩ := Kd.R_slice ho; subst eo; obtain ⟨ad, eA, hx⟩ := Kd.at_string (Kd.R_reads' ho).2.2 j hj0 hj1; subst eA; clear ho hbl)
    | ((with_reducible refine gate_store (t := 26) (p := 6) rfl ?_); refine ev_store rfl rfl 26 6 (.tmp 23) rfl g6 #[.int .i64 0, .string ⟨#[]⟩, .int .i64 3, .int .i64 0, .string (rdOf ByteArray.empty wordsL j), .string ⟨#[]⟩, .string ⟨#[]⟩, .slice none 0 0] (by rfl) (by rfl) 26 _ FR.out.b6 (by kernel_rfl) rfl (one8 _ _ _ _ _ _ _ _ _ _) ?_; intro wz hbz hkz; replace FR := Aside0.mk (FR.out.result hbz hkz); clear hbz hkz))
  refine bodyPost_ret (results_cell_row rfl _ _ g6 26 _ (0, 0) _ rfl FR.out.b6 Tryd.underlying26 rfl (by kernel_rfl)) rfl ?_
  exact ⟨none, 0, rfl, FR.out.outN rfl⟩

set_option maxHeartbeats 8000000 in
set_option maxRecDepth 100000 in
theorem text_of (d : Int) (g : Nat) (A0 : Option Addr) (c0 : Nat) (A2 : Option Addr) (c2 : Nat) (A1 : Option Addr) (c1 : Nat) (l : List Int) (vars : List Slot) (own : Slot) (a many : Int) (w : World) (hin : FIn w g A0 c0 A2 c2 A1 c1 l vars own many a) (hm : ¬ Int.tmod (nx l a).1 4 = 0) (hm2 : Int.tmod (nx l a).1 4 < 3 ∨ d < 1) :
    Calls Tryd.prog 31 #[.pointer (some ⟨g, 0, none⟩), .agg #[.string own.f0, .slice A1 own.f1.length c1], .int .i64 d] w fun e w' => ∃ A c, e = .returned (EV (ofF l (nx l a).2 vars own ⟨#[115]⟩ ⟨3, 0, ⟨#[97]⟩⟩).1 (.slice A ((ofF l (nx l a).2 vars own ⟨#[115]⟩ ⟨3, 0, ⟨#[97]⟩⟩).1).f5.length c)) ∧ FOut w w' g A0 c0 A2 c2 l vars many (ofF l (nx l a).2 vars own ⟨#[115]⟩ ⟨3, 0, ⟨#[97]⟩⟩).2 (ofF l (nx l a).2 vars own ⟨#[115]⟩ ⟨3, 0, ⟨#[97]⟩⟩).1 A c := by
  have hu26 := Tryd.underlying26
  have hu59 := Tryd.underlying59
  have hu23 := Tryd.underlying23
  have HIN := Aside0.mk hin
  have hb := hin.fed.byte
  have HN := Lib.hid (fun wc hs hfl => feed_next g A0 c0 (.slice A2 vars.length c2) l a many wc hs hfl hin.fed)
  have HFN := Aside0.mk hin.fed.next
  have HIO := Aside0.mk hin
  generalize (nx l a).1 = b at HN hb hm hm2 ⊢
  generalize (nx l a).2 = a2 at HN HFN ⊢
  clear hin
  obtain ⟨hb0, hb1⟩ := hb
  obtain ⟨m, hmm⟩ : ∃ m, Int.tmod b 4 = m := ⟨_, rfl⟩
  have hme : b % 4 = m := by rw [← Int.tmod_eq_emod_of_nonneg hb0]; exact hmm
  rw [hmm] at hm hm2
  have HMM := Aside0.mk hmm
  clear hmm
  have hkids := ofF_kids l a2 vars own ⟨#[115]⟩ ⟨3, 0, ⟨#[97]⟩⟩
  have HOF := Lib.hid (fun W (i : FIn W g A0 c0 A2 c2 A1 c1 l vars own many a2) => feed_of g A0 c0 A2 c2 A1 c1 l vars own a2 many ⟨#[115]⟩ ⟨3, 0, ⟨#[97]⟩⟩ W i.st i.fl i.fv i.fo i.cap i.fed i.lim (by decide) i.few)
  generalize ofF l a2 vars own ⟨#[115]⟩ ⟨3, 0, ⟨#[97]⟩⟩ = R at HOF hkids ⊢
  obtain ⟨X, a3⟩ := R
  dsimp only at HOF hkids ⊢
  replace hkids := Aside0.mk hkids
  have d1 : (m == 0) = false := beq_eq_false_iff_ne.2 hm
  have hcase : m < 3 ∨ (¬ m < 3 ∧ d < 1) := by omega
  clear hm2
  rcases hcase with h5 | ⟨h5, h6⟩
  all_goals
    go_enter Tryd.func31, Tryd.ntmps31
    go_wp2_with (first
      | ((with_reducible refine gate_dst (N := 4) rfl ?_); refine box_event ?hg (N := 4) ?hd (cs := #[.string own.f0, .slice A1 own.f1.length c1]) (t := 59) ?hr ?_; (case hd => rfl); (case hg => rfl); (case hr => first | (go_simp; done) | (go_simp; rfl)); intro g4 e4 wa hbox hb4; have BK4 := Aside0.mk hbox; have E4 := Aside0.mk e4; have HWA := Aside0.mk hb4; clear hbox e4 hb4)
      | ((with_reducible refine gate_dst (N := 6) rfl ?_); refine box_event ?hg (N := 6) ?hd (cs := #[.int .i64 0, .string ⟨#[]⟩, .int .i64 0, .int .i64 0, .string ⟨#[]⟩, .string ⟨#[]⟩, .string ⟨#[]⟩, .slice none 0 0]) (t := 26) ?hr ?_; (case hd => rfl); (case hg => rfl); (case hr => first | (go_simp; done) | (go_simp; rfl)); intro g6 e6 wb hbox hb6; have FR := Aside0.mk (Frame.begin HIN.out E4.out BK4.out HWA.out (Nat.le_of_eq e6.symm) hbox hb6); clear hbox e6 hb6 BK4 E4 HWA)
      | (go_at_call 29; refine (HN.out wb FR.out.st FR.out.fl').mono ?_; rintro e w1 ⟨rfl, hst, hk⟩; replace FR := Aside0.mk (FR.out.turn hst hk); clear hst hk HN; have hc40 : w1.cell? ⟨g4, 0, none⟩ = some (.string own.f0) := (blk_cell FR.out.b4 0).trans rfl)
      | ((with_reducible refine gate_dst (N := 33) rfl ?_); refine wpList_load_row rfl 59 (.tmp 4) rfl g4 (by rfl) 59 _ (0, 0) _ FR.out.b4 Tryd.underlying59 rfl (by kernel_rfl) ?_)
      | (go_at_call 47; refine (HOF.out w1 (FR.out.input HIO.out HFN.out)).mono ?_; rintro e w2 ⟨rfl, hst, hk⟩; replace FR := Aside0.mk (FR.out.turn hst hk); clear hst hk HOF)
      | ((with_reducible refine gate_store (t := 26) (p := 6) rfl ?_); refine ev_store rfl rfl 26 6 (.tmp 35) rfl g6 #[.int .i64 X.f0, .string X.f1, .int .i64 X.f2.f0, .int .i64 X.f2.f1, .string X.f2.f2, .string X.f3, .string X.f4, .slice none 0 0] (by rfl) (by rfl) 26 _ FR.out.b6 (by kernel_rfl) rfl (one8 _ _ _ _ _ _ _ _ _ _) ?_; intro wz hbz hkz; replace FR := Aside0.mk (FR.out.result hbz hkz); clear hbz hkz))
    refine bodyPost_ret (results_cell_row rfl _ _ g6 26 _ (0, 0) _ rfl FR.out.b6 Tryd.underlying26 rfl (by kernel_rfl)) rfl ?_
    exact ⟨none, 0, by rw [hkids.out]; rfl, FR.out.outN hkids.out⟩

set_option maxHeartbeats 8000000 in
set_option maxRecDepth 100000 in
theorem text_bin (d d' : Int) (hdd : IntKind.i64.wrap (d - 1) = d') (g : Nat) (A0 : Option Addr) (c0 : Nat) (A2 : Option Addr) (c2 : Nat) (A1 : Option Addr) (c1 : Nat) (l : List Int) (vars : List Slot) (own : Slot) (a many : Int) (w : World) (hin : FIn w g A0 c0 A2 c2 A1 c1 l vars own many a) (X1 X2 : S26) (a3 a4 : Int) (hrec : ∀ W, FIn W g A0 c0 A2 c2 A1 c1 l vars own many (nx l a).2 → Calls Tryd.prog 31 #[.pointer (some ⟨g, 0, none⟩), .agg #[.string own.f0, .slice A1 own.f1.length c1], .int .i64 d'] W fun e w' => ∃ A c, e = .returned (EV X1 (.slice A (X1).f5.length c)) ∧ FOut W w' g A0 c0 A2 c2 l vars many a3 X1 A c) (hrec2 : ∀ W, FIn W g A0 c0 A2 c2 A1 c1 l vars own many a3 → Calls Tryd.prog 31 #[.pointer (some ⟨g, 0, none⟩), .agg #[.string own.f0, .slice A1 own.f1.length c1], .int .i64 d'] W fun e w' => ∃ A c, e = .returned (EV X2 (.slice A (X2).f5.length c)) ∧ FOut W w' g A0 c0 A2 c2 l vars many a4 X2 A c) (hf3 : Fed l a3) (hm : ¬ Int.tmod (nx l a).1 4 = 0) (hm2 : ¬ Int.tmod (nx l a).1 4 < 3) (hd : ¬ d < 1) :
    Calls Tryd.prog 31 #[.pointer (some ⟨g, 0, none⟩), .agg #[.string own.f0, .slice A1 own.f1.length c1], .int .i64 d] w fun e w' => ∃ A c, e = .returned (EV (binE ⟨#[43]⟩ X1 X2) (.slice A ((binE ⟨#[43]⟩ X1 X2)).f5.length c)) ∧ FOut w w' g A0 c0 A2 c2 l vars many a4 (binE ⟨#[43]⟩ X1 X2) A c := by
  have HREC := Lib.hid hrec
  have HREC2 := Lib.hid hrec2
  have HF3 := Aside0.mk hf3
  clear hrec hrec2 hf3
  have hu26 := Tryd.underlying26
  have hu59 := Tryd.underlying59
  have hu23 := Tryd.underlying23
  have HIN := Aside0.mk hin
  have hb := hin.fed.byte
  have HN := Lib.hid (fun wc hs hfl => feed_next g A0 c0 (.slice A2 vars.length c2) l a many wc hs hfl hin.fed)
  have HFN := Aside0.mk hin.fed.next
  have HIO := Aside0.mk hin
  generalize (nx l a).1 = b at HN hb hm hm2 ⊢
  generalize (nx l a).2 = a2 at HN HFN HREC ⊢
  clear hin
  obtain ⟨hb0, hb1⟩ := hb
  obtain ⟨m, hmm⟩ : ∃ m, Int.tmod b 4 = m := ⟨_, rfl⟩
  have hme : b % 4 = m := by rw [← Int.tmod_eq_emod_of_nonneg hb0]; exact hmm
  rw [hmm] at hm hm2
  have HMM := Aside0.mk hmm
  clear hmm
  have d1 : (m == 0) = false := beq_eq_false_iff_ne.2 hm
  go_enter Tryd.func31, Tryd.ntmps31
  go_wp2_with (first
    | ((with_reducible refine gate_dst (N := 4) rfl ?_); refine box_event ?hg (N := 4) ?hd (cs := #[.string own.f0, .slice A1 own.f1.length c1]) (t := 59) ?hr ?_; (case hd => rfl); (case hg => rfl); (case hr => first | (go_simp; done) | (go_simp; rfl)); intro g4 e4 wa hbox hb4; have BK4 := Aside0.mk hbox; have E4 := Aside0.mk e4; have HWA := Aside0.mk hb4; clear hbox e4 hb4)
    | ((with_reducible refine gate_dst (N := 6) rfl ?_); refine box_event ?hg (N := 6) ?hd (cs := #[.int .i64 0, .string ⟨#[]⟩, .int .i64 0, .int .i64 0, .string ⟨#[]⟩, .string ⟨#[]⟩, .string ⟨#[]⟩, .slice none 0 0]) (t := 26) ?hr ?_; (case hd => rfl); (case hg => rfl); (case hr => first | (go_simp; done) | (go_simp; rfl)); intro g6 e6 wb hbox hb6; have FR := Aside0.mk (Frame.begin HIN.out E4.out BK4.out HWA.out (Nat.le_of_eq e6.symm) hbox hb6); clear hbox e6 hb6 BK4 E4 HWA)
    | (go_at_call 29; refine (HN.out wb FR.out.st FR.out.fl').mono ?_; rintro e w1 ⟨rfl, hst, hk⟩; replace FR := Aside0.mk (FR.out.turn hst hk); clear hst hk HN; have hc40 : w1.cell? ⟨g4, 0, none⟩ = some (.string own.f0) := (blk_cell FR.out.b4 0).trans rfl; have HW1 := Aside0.mk (show w.heap.size ≤ w1.heap.size ∧ g4 < w1.heap.size ∧ g6 < w1.heap.size ∧ g < w.heap.size from ⟨FR.out.kb.size, FR.out.lt4, FR.out.lt6, FR.out.glt⟩))
    | ((with_reducible refine gate_dst (N := 37) rfl ?_); refine wpList_load_row rfl 59 (.tmp 4) rfl g4 (by rfl) 59 _ (0, 0) _ FR.out.b4 Tryd.underlying59 rfl (by kernel_rfl) ?_)
    | (go_at_call 31; refine (HREC.out w1 (FR.out.input HIO.out HFN.out)).mono ?_; rintro e w2 ⟨A3, c3, rfl, ho3⟩; have Hw2 := Aside0.mk (show w1.heap.size ≤ w2.heap.size from ho3.kb.size); have NX := Aside0.mk (N_made_between ho3.kids); replace FR := Aside0.mk (FR.out.turn ho3.st ho3.kb); clear ho3 HREC)
    | ((with_reducible refine gate_dst (N := 8) rfl ?_); refine box_event ?hg (N := 8) ?hd (cs := #[.int .i64 0, .string ⟨#[]⟩, .int .i64 0, .int .i64 0, .string ⟨#[]⟩, .string ⟨#[]⟩, .string ⟨#[]⟩, .slice none 0 0]) (t := 26) ?hr ?_; (case hd => rfl); (case hg => rfl); (case hr => first | (go_simp; done) | (go_simp; rfl)); intro g8 e8 w3 hbox hb_; have B8 := Aside0.mk hbox; have E8 := Aside0.mk (show g8 = w2.heap.size from e8); have HS8 := Aside0.mk (show w2.heap.size ≤ w3.heap.size from hb_.size); replace NX := Aside0.mk (Kd.N_below NX.out hb_); replace FR := Aside0.mk (FR.out.grow hb_); clear hbox e8 hb_)
    | ((with_reducible refine gate_store (t := 26) (p := 8) rfl ?_); refine ev_store rfl rfl 26 8 (.tmp 40) rfl g8 #[.int .i64 X1.f0, .string X1.f1, .int .i64 X1.f2.f0, .int .i64 X1.f2.f1, .string X1.f2.f2, .string X1.f3, .string X1.f4, .slice A3 X1.f5.length c3] (by rfl) (by rfl) 26 _ B8.out (by kernel_rfl) rfl (one8' _ _ _) ?_; intro w4 hbz hkz; replace B8 := Aside0.mk hbz; have HT8 := Aside0.mk hkz.size; replace NX := Aside0.mk (N_kb NX.out hkz (.inr (by have h1_ := HW1.out; have h2_ := Hw2.out; have h8_ := E8.out; omega))); replace FR := Aside0.mk (FR.out.other (by have h1_ := HW1.out; have h2_ := Hw2.out; have h8_ := E8.out; omega) (by have h1_ := HW1.out; have h2_ := Hw2.out; have h8_ := E8.out; omega) (by have h1_ := HW1.out; have h2_ := Hw2.out; have h8_ := E8.out; omega) hkz); clear hbz hkz)
    | ((with_reducible refine gate_dst (N := 42) rfl ?_); refine wpList_load_row rfl 59 (.tmp 4) rfl g4 (by rfl) 59 _ (0, 0) _ FR.out.b4 Tryd.underlying59 rfl (by kernel_rfl) ?_)
    | (go_at_call 31; refine (HREC2.out w4 (FR.out.input HIO.out HF3.out)).mono ?_; rintro e w5 ⟨A4, c4, rfl, ho3⟩; have Hw5 := Aside0.mk (show w4.heap.size ≤ w5.heap.size from ho3.kb.size); have NY := Aside0.mk (N_made_between ho3.kids); have B8l := Aside0.mk (blk_lt B8.out); replace NX := Aside0.mk (N_kb NX.out ho3.kb (.inl (by have h1_ := HW1.out; omega))); replace B8 := Aside0.mk (ho3.kb.blk B8.out (by have h1_ := HW1.out; have h2_ := Hw2.out; have h8_ := E8.out; omega)); replace FR := Aside0.mk (FR.out.turn ho3.st ho3.kb); clear ho3 HREC2)
    | ((with_reducible refine gate_dst (N := 9) rfl ?_); refine box_event ?hg (N := 9) ?hd (cs := #[.int .i64 0, .string ⟨#[]⟩, .int .i64 0, .int .i64 0, .string ⟨#[]⟩, .string ⟨#[]⟩, .string ⟨#[]⟩, .slice none 0 0]) (t := 26) ?hr ?_; (case hd => rfl); (case hg => rfl); (case hr => first | (go_simp; done) | (go_simp; rfl)); intro g9 e9 w6 hbox hb_; have B9 := Aside0.mk hbox; have E9 := Aside0.mk (show g9 = w5.heap.size from e9); have HS9 := Aside0.mk (show w5.heap.size ≤ w6.heap.size from hb_.size); replace NX := Aside0.mk (Kd.N_below NX.out hb_); replace NY := Aside0.mk (Kd.N_below NY.out hb_); replace B8 := Aside0.mk (blk_below B8.out hb_); replace FR := Aside0.mk (FR.out.grow hb_); clear hbox e9 hb_)
    | ((with_reducible refine gate_store (t := 26) (p := 9) rfl ?_); refine ev_store rfl rfl 26 9 (.tmp 45) rfl g9 #[.int .i64 X2.f0, .string X2.f1, .int .i64 X2.f2.f0, .int .i64 X2.f2.f1, .string X2.f2.f2, .string X2.f3, .string X2.f4, .slice A4 X2.f5.length c4] (by rfl) (by rfl) 26 _ B9.out (by kernel_rfl) rfl (one8' _ _ _) ?_; intro w7 hbz hkz; replace B9 := Aside0.mk hbz; have HT9 := Aside0.mk hkz.size; replace NX := Aside0.mk (N_kb NX.out hkz (.inr (by have h1_ := HW1.out; have h2_ := Hw2.out; have h8_ := E8.out; have h3_ := HS8.out; have h4_ := HT8.out; have h5_ := Hw5.out; have h9_ := E9.out; have b8_ := B8l.out; omega))); replace NY := Aside0.mk (N_kb NY.out hkz (.inr (by have h1_ := HW1.out; have h2_ := Hw2.out; have h8_ := E8.out; have h3_ := HS8.out; have h4_ := HT8.out; have h5_ := Hw5.out; have h9_ := E9.out; have b8_ := B8l.out; omega))); replace B8 := Aside0.mk (hkz.blk B8.out (by have h1_ := HW1.out; have h2_ := Hw2.out; have h8_ := E8.out; have h3_ := HS8.out; have h4_ := HT8.out; have h5_ := Hw5.out; have h9_ := E9.out; have b8_ := B8l.out; omega)); replace FR := Aside0.mk (FR.out.other (by have h1_ := HW1.out; have h2_ := Hw2.out; have h8_ := E8.out; have h3_ := HS8.out; have h4_ := HT8.out; have h5_ := Hw5.out; have h9_ := E9.out; have b8_ := B8l.out; omega) (by have h1_ := HW1.out; have h2_ := Hw2.out; have h8_ := E8.out; have h3_ := HS8.out; have h4_ := HT8.out; have h5_ := Hw5.out; have h9_ := E9.out; have b8_ := B8l.out; omega) (by have h1_ := HW1.out; have h2_ := Hw2.out; have h8_ := E8.out; have h3_ := HS8.out; have h4_ := HT8.out; have h5_ := Hw5.out; have h9_ := E9.out; have b8_ := B8l.out; omega) hkz); clear hbz hkz)
    | ((with_reducible refine gate_dst (N := 46) rfl ?_); refine wpList_load_row rfl 26 (.tmp 8) rfl g8 (by rfl) 26 _ (0, 0) _ B8.out Tryd.underlying26 rfl (by kernel_rfl) ?_)
    | ((with_reducible refine gate_dst (N := 47) rfl ?_); refine wpList_load_row rfl 26 (.tmp 9) rfl g9 (by rfl) 26 _ (0, 0) _ B9.out Tryd.underlying26 rfl (by kernel_rfl) ?_)
    | ((with_reducible refine gate_dst (N := 48) rfl ?_); refine Kd.N_lit k26 _ 26 ?hg (N' := 48) ?hd (xs := [X1, X2]) (inner := [.int .i64 X1.f0, .string X1.f1, .int .i64 X1.f2.f0, .int .i64 X1.f2.f1, .string X1.f2.f2, .string X1.f3, .string X1.f4, .slice A3 X1.f5.length c3, .int .i64 X2.f0, .string X2.f1, .int .i64 X2.f2.f0, .int .i64 X2.f2.f1, .string X2.f2.f2, .string X2.f3, .string X2.f4, .slice A4 X2.f5.length c4]) (ok := fun k => w1.heap.size ≤ k) (okp := fun k => w1.heap.size ≤ k) ?hr (reps2 (fk_of (ok := fun k => w1.heap.size ≤ k) (Kd.F_mono (Kd.N_F NX.out) (fun k hk => hk.1)) (Kd.N_reads' NX.out).2.1) (fk_of (ok := fun k => w1.heap.size ≤ k) (Kd.F_mono (Kd.N_F NY.out) (fun k hk => Nat.le_trans (show w1.heap.size ≤ w4.heap.size from (by have h1_ := HW1.out; have h2_ := Hw2.out; have h8_ := E8.out; have h3_ := HS8.out; have h4_ := HT8.out; have h5_ := Hw5.out; have h9_ := E9.out; have h6_ := HS9.out; have h7_ := HT9.out; omega)) hk.1)) (Kd.N_reads' NY.out).2.1)) (fun _ h => h) (show w1.heap.size ≤ w7.heap.size from (by have h1_ := HW1.out; have h2_ := Hw2.out; have h8_ := E8.out; have h3_ := HS8.out; have h4_ := HT8.out; have h5_ := Hw5.out; have h9_ := E9.out; have h6_ := HS9.out; have h7_ := HT9.out; omega)) (Below.refl _ _) (Nat.le_refl _) (by simp) ?_; (case hd => rfl); (case hg => rfl); (case hr => first | (go_simp; done) | (go_simp; rfl)); intro vL wL ho hbl hg_ hn_; clear hg_ hn_; replace FR := Aside0.mk (FR.out.grow hbl); obtain ⟨AL, cL, eL⟩ := Kd.N_slice ho; subst eL; have HNL := Aside0.mk ho; clear ho hbl)
    | ((with_reducible refine gate_store (t := 26) (p := 6) rfl ?_); refine ev_store rfl rfl 26 6 (.tmp 49) rfl g6 #[.int .i64 4, .string ⟨#[43]⟩, .int .i64 0, .int .i64 0, .string ⟨#[]⟩, .string ⟨#[]⟩, .string ⟨#[]⟩, .slice AL [X1, X2].length cL] (by rfl) (by rfl) 26 _ FR.out.b6 (by kernel_rfl) rfl (one8 _ _ _ _ _ _ _ _ _ _) ?_; intro wz hbz hkz; have HNZ := Aside0.mk (Kd.N_step HNL.out (fun k hk hlt => hkz.block k hlt (by have h1_ := HW1.out; omega))); replace FR := Aside0.mk (FR.out.result hbz hkz); clear hbz hkz))
  refine bodyPost_ret (results_cell_row rfl _ _ g6 26 _ (0, 0) _ rfl FR.out.b6 Tryd.underlying26 rfl (by kernel_rfl)) rfl ?_
  exact ⟨AL, cL, rfl, FR.out.out (x := binE ⟨#[43]⟩ X1 X2) (B := w7.heap.size) (ok := fun k => w1.heap.size ≤ k) (by have h1_ := HW1.out; have h2_ := Hw2.out; have h8_ := E8.out; have h3_ := HS8.out; have h4_ := HT8.out; have h5_ := Hw5.out; have h9_ := E9.out; have h6_ := HS9.out; have h7_ := HT9.out; omega) (fun k hk => (by have h1_ := HW1.out; omega)) HNZ.out⟩
end Go.Proofs.YtccaodehgaaheaaDoor.R
