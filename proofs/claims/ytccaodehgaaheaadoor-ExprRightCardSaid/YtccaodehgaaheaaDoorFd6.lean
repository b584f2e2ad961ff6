/- The feed's truths: their walk. -/
import Derived.Test.YtccaodehgaaheaaDoorFd5
namespace Go.Proofs.YtccaodehgaaheaaDoor.R
open Go.RowKit Go.Proofs.YtccaodehgaaheaaDoorW.PrintWords Go.Proofs.YtccaodehgaaheaaDoorW.PrintLast Go.Proofs.YtccaodehgaaheaaDoorW.PrintMore
set_option linter.unusedVariables false
set_option linter.unusedSimpArgs false
set_option maxHeartbeats 8000000 in
set_option maxRecDepth 100000 in
theorem truth_lit (d : Int) (g : Nat) (A0 : Option Addr) (c0 : Nat) (A2 : Option Addr) (c2 : Nat) (A1 : Option Addr) (c1 : Nat) (l : List Int) (vars : List Slot) (own : Slot) (a many : Int) (w : World) (hin : FIn w g A0 c0 A2 c2 A1 c1 l vars own many a) (hm : Int.tmod (nx l a).1 16 = 0) :
    Calls Tryd.prog 32 #[.pointer (some ⟨g, 0, none⟩), .agg #[.string own.f0, .slice A1 own.f1.length c1], .int .i64 d] w fun e w' => ∃ A c, e = .returned (EV (litE ⟨2, Int.tmod (Int.tdiv (nx l a).1 16) 2, ⟨#[]⟩⟩) (.slice A ((litE ⟨2, Int.tmod (Int.tdiv (nx l a).1 16) 2, ⟨#[]⟩⟩)).f5.length c)) ∧ FOut w w' g A0 c0 A2 c2 l vars many (nx l a).2 (litE ⟨2, Int.tmod (Int.tdiv (nx l a).1 16) 2, ⟨#[]⟩⟩) A c := by
  have hu26 := Tryd.underlying26
  have hu59 := Tryd.underlying59
  have hu23 := Tryd.underlying23
  have HIN := Aside0.mk hin
  have hb := hin.fed.byte
  have HN := Lib.hid (fun wc hs hfl => feed_next g A0 c0 (.slice A2 vars.length c2) l a many wc hs hfl hin.fed)
  have HFN := Aside0.mk hin.fed.next
  have HIO := Aside0.mk hin
  generalize (nx l a).1 = b at HN hb hm ⊢
  generalize (nx l a).2 = a2 at HN HFN ⊢
  clear hin
  obtain ⟨hb0, hb1⟩ := hb
  obtain ⟨m, hmm⟩ : ∃ m, Int.tmod b 16 = m := ⟨_, rfl⟩
  have hme : b % 16 = m := by rw [← Int.tmod_eq_emod_of_nonneg hb0]; exact hmm
  rw [hmm] at hm
  have HMM := Aside0.mk hmm
  clear hmm
  subst hm
  obtain ⟨q, hq⟩ : ∃ q, Int.tdiv b 16 = q := ⟨_, rfl⟩
  have hqe : b / 16 = q := by rw [← Int.tdiv_eq_ediv_of_nonneg hb0]; exact hq
  have hq0 : 0 ≤ q := by omega
  have hwq : IntKind.i64.wrap q = q := by rw [i64_w]; unfold wrap64; omega
  try rw [hq]
  obtain ⟨jc, hjc⟩ : ∃ j, Int.tmod q 8 = j := ⟨_, rfl⟩
  have hjce : q % 8 = jc := by rw [← Int.tmod_eq_emod_of_nonneg hq0]; exact hjc
  try rw [hjc]
  have hjc0 : 0 ≤ jc := by omega
  have hjc1 : jc < 8 := by omega
  have pjc0 : (0 ≤ jc) = True := eq_true hjc0
  have pjc1 : (jc < 8) = True := eq_true hjc1
  have hlenc : cmpL.length = 8 := rfl
  obtain ⟨j, hj⟩ : ∃ j, Int.tmod q 2 = j := ⟨_, rfl⟩
  have hje : q % 2 = j := by rw [← Int.tmod_eq_emod_of_nonneg hq0]; exact hj
  try rw [hj]
  have hj0 : 0 ≤ j := by omega
  have hj1 : j < 2 := by omega
  have pj0 : (0 ≤ j) = True := eq_true hj0
  have pj1 : (j < 2) = True := eq_true hj1
  go_enter Tryd.func32, Tryd.ntmps32
  go_wp2_with (first
    | ((with_reducible refine gate_dst (N := 4) rfl ?_); refine box_event ?hg (N := 4) ?hd (cs := #[.string own.f0, .slice A1 own.f1.length c1]) (t := 59) ?hr ?_; (case hd => rfl); (case hg => rfl); (case hr => first | (go_simp; done) | (go_simp; rfl)); intro g4 e4 wa hbox hb4; have BK4 := Aside0.mk hbox; have E4 := Aside0.mk e4; have HWA := Aside0.mk hb4; clear hbox e4 hb4)
    | ((with_reducible refine gate_dst (N := 6) rfl ?_); refine box_event ?hg (N := 6) ?hd (cs := #[.int .i64 0, .string ⟨#[]⟩, .int .i64 0, .int .i64 0, .string ⟨#[]⟩, .string ⟨#[]⟩, .string ⟨#[]⟩, .slice none 0 0]) (t := 26) ?hr ?_; (case hd => rfl); (case hg => rfl); (case hr => first | (go_simp; done) | (go_simp; rfl)); intro g6 e6 wb hbox hb6; have FR := Aside0.mk (Frame.begin HIN.out E4.out BK4.out HWA.out (Nat.le_of_eq e6.symm) hbox hb6); clear hbox e6 hb6 BK4 E4 HWA)
    | (go_at_call 29; refine (HN.out wb FR.out.st FR.out.fl').mono ?_; rintro e wn ⟨rfl, hst, hk⟩; replace FR := Aside0.mk (FR.out.turn hst hk); clear hst hk HN)
    | ((with_reducible refine gate_dst (N := 17) rfl ?_); refine Kd.R_lit Kd.string _ 9 ?hg (N := 17) ?hd (xs := cmpL) (inner := [.string ⟨#[61, 61]⟩, .string ⟨#[33, 61]⟩, .string ⟨#[60]⟩, .string ⟨#[60, 61]⟩, .string ⟨#[62]⟩, .string ⟨#[62, 61]⟩, .string ⟨#[60, 61]⟩, .string ⟨#[62, 61]⟩]) (ok := fun _ => True) (okp := fun _ => True) ?hr ?hp (fun _ hk => hk) trivial (Below.refl _ _) (Nat.le_refl _) (by decide) ?_; (case hd => rfl); (case hg => rfl); (case hr => first | (go_simp; done) | (go_simp; rfl)); (case hp => exact (Reps.one rfl (Reps.one rfl (Reps.one rfl (Reps.one rfl (Reps.one rfl (Reps.one rfl (Reps.one rfl (Reps.one rfl (Reps.none _ _)))))))))); intro v_ w1 ho hbl hg_ hn_; clear hg_ hn_; replace FR := Aside0.mk (FR.out.grow hbl); obtain ⟨Ao, co, eo⟩ := Kd.R_slice ho; subst eo; obtain ⟨ad, eA, hx⟩ := Kd.at_string (Kd.R_reads' ho).2.2 jc hjc0 hjc1; subst eA; clear ho hbl; have hxc := hx; clear hx; have HW1 := Aside0.mk (show w.heap.size ≤ w1.heap.size ∧ g4 < w1.heap.size ∧ g6 < w1.heap.size ∧ g < w.heap.size from ⟨FR.out.kb.size, FR.out.lt4, FR.out.lt6, FR.out.glt⟩))
    | ((with_reducible refine gate_store (t := 26) (p := 6) rfl ?_); refine ev_store rfl rfl 26 6 (.tmp 31) rfl g6 #[.int .i64 0, .string ⟨#[]⟩, .int .i64 2, .int .i64 j, .string ⟨#[]⟩, .string ⟨#[]⟩, .string ⟨#[]⟩, .slice none 0 0] (by rfl) (by rfl) 26 _ FR.out.b6 (by kernel_rfl) rfl (one8 _ _ _ _ _ _ _ _ _ _) ?_; intro wz hbz hkz; replace FR := Aside0.mk (FR.out.result hbz hkz); clear hbz hkz))
  refine bodyPost_ret (results_cell_row rfl _ _ g6 26 _ (0, 0) _ rfl FR.out.b6 Tryd.underlying26 rfl (by kernel_rfl)) rfl ?_
  exact ⟨none, 0, rfl, FR.out.outN rfl⟩

set_option maxHeartbeats 8000000 in
set_option maxRecDepth 100000 in
theorem truth_of (d : Int) (g : Nat) (A0 : Option Addr) (c0 : Nat) (A2 : Option Addr) (c2 : Nat) (A1 : Option Addr) (c1 : Nat) (l : List Int) (vars : List Slot) (own : Slot) (a many : Int) (w : World) (hin : FIn w g A0 c0 A2 c2 A1 c1 l vars own many a) (hm : Int.tmod (nx l a).1 16 = 1) :
    Calls Tryd.prog 32 #[.pointer (some ⟨g, 0, none⟩), .agg #[.string own.f0, .slice A1 own.f1.length c1], .int .i64 d] w fun e w' => ∃ A c, e = .returned (EV (ofF l (nx l a).2 vars own ⟨#[116]⟩ ⟨2, 1, ⟨#[]⟩⟩).1 (.slice A ((ofF l (nx l a).2 vars own ⟨#[116]⟩ ⟨2, 1, ⟨#[]⟩⟩).1).f5.length c)) ∧ FOut w w' g A0 c0 A2 c2 l vars many (ofF l (nx l a).2 vars own ⟨#[116]⟩ ⟨2, 1, ⟨#[]⟩⟩).2 (ofF l (nx l a).2 vars own ⟨#[116]⟩ ⟨2, 1, ⟨#[]⟩⟩).1 A c := by
  have hu26 := Tryd.underlying26
  have hu59 := Tryd.underlying59
  have hu23 := Tryd.underlying23
  have HIN := Aside0.mk hin
  have hb := hin.fed.byte
  have HN := Lib.hid (fun wc hs hfl => feed_next g A0 c0 (.slice A2 vars.length c2) l a many wc hs hfl hin.fed)
  have HFN := Aside0.mk hin.fed.next
  have HIO := Aside0.mk hin
  generalize (nx l a).1 = b at HN hb hm ⊢
  generalize (nx l a).2 = a2 at HN HFN ⊢
  clear hin
  obtain ⟨hb0, hb1⟩ := hb
  obtain ⟨m, hmm⟩ : ∃ m, Int.tmod b 16 = m := ⟨_, rfl⟩
  have hme : b % 16 = m := by rw [← Int.tmod_eq_emod_of_nonneg hb0]; exact hmm
  rw [hmm] at hm
  have HMM := Aside0.mk hmm
  clear hmm
  have hkids := ofF_kids l a2 vars own ⟨#[116]⟩ ⟨2, 1, ⟨#[]⟩⟩
  have HOF := Lib.hid (fun W (i : FIn W g A0 c0 A2 c2 A1 c1 l vars own many a2) => feed_of g A0 c0 A2 c2 A1 c1 l vars own a2 many ⟨#[116]⟩ ⟨2, 1, ⟨#[]⟩⟩ W i.st i.fl i.fv i.fo i.cap i.fed i.lim (by decide) i.few)
  generalize ofF l a2 vars own ⟨#[116]⟩ ⟨2, 1, ⟨#[]⟩⟩ = R at HOF hkids ⊢
  obtain ⟨X, a3⟩ := R
  dsimp only at HOF hkids ⊢
  replace hkids := Aside0.mk hkids
  subst hm
  obtain ⟨q, hq⟩ : ∃ q, Int.tdiv b 16 = q := ⟨_, rfl⟩
  have hqe : b / 16 = q := by rw [← Int.tdiv_eq_ediv_of_nonneg hb0]; exact hq
  have hq0 : 0 ≤ q := by omega
  have hwq : IntKind.i64.wrap q = q := by rw [i64_w]; unfold wrap64; omega
  try rw [hq]
  obtain ⟨jc, hjc⟩ : ∃ j, Int.tmod q 8 = j := ⟨_, rfl⟩
  have hjce : q % 8 = jc := by rw [← Int.tmod_eq_emod_of_nonneg hq0]; exact hjc
  try rw [hjc]
  have hjc0 : 0 ≤ jc := by omega
  have hjc1 : jc < 8 := by omega
  have pjc0 : (0 ≤ jc) = True := eq_true hjc0
  have pjc1 : (jc < 8) = True := eq_true hjc1
  have hlenc : cmpL.length = 8 := rfl
  all_goals
    go_enter Tryd.func32, Tryd.ntmps32
    go_wp2_with (first
      | ((with_reducible refine gate_dst (N := 4) rfl ?_); refine box_event ?hg (N := 4) ?hd (cs := #[.string own.f0, .slice A1 own.f1.length c1]) (t := 59) ?hr ?_; (case hd => rfl); (case hg => rfl); (case hr => first | (go_simp; done) | (go_simp; rfl)); intro g4 e4 wa hbox hb4; have BK4 := Aside0.mk hbox; have E4 := Aside0.mk e4; have HWA := Aside0.mk hb4; clear hbox e4 hb4)
      | ((with_reducible refine gate_dst (N := 6) rfl ?_); refine box_event ?hg (N := 6) ?hd (cs := #[.int .i64 0, .string ⟨#[]⟩, .int .i64 0, .int .i64 0, .string ⟨#[]⟩, .string ⟨#[]⟩, .string ⟨#[]⟩, .slice none 0 0]) (t := 26) ?hr ?_; (case hd => rfl); (case hg => rfl); (case hr => first | (go_simp; done) | (go_simp; rfl)); intro g6 e6 wb hbox hb6; have FR := Aside0.mk (Frame.begin HIN.out E4.out BK4.out HWA.out (Nat.le_of_eq e6.symm) hbox hb6); clear hbox e6 hb6 BK4 E4 HWA)
      | (go_at_call 29; refine (HN.out wb FR.out.st FR.out.fl').mono ?_; rintro e wn ⟨rfl, hst, hk⟩; replace FR := Aside0.mk (FR.out.turn hst hk); clear hst hk HN)
      | ((with_reducible refine gate_dst (N := 17) rfl ?_); refine Kd.R_lit Kd.string _ 9 ?hg (N := 17) ?hd (xs := cmpL) (inner := [.string ⟨#[61, 61]⟩, .string ⟨#[33, 61]⟩, .string ⟨#[60]⟩, .string ⟨#[60, 61]⟩, .string ⟨#[62]⟩, .string ⟨#[62, 61]⟩, .string ⟨#[60, 61]⟩, .string ⟨#[62, 61]⟩]) (ok := fun _ => True) (okp := fun _ => True) ?hr ?hp (fun _ hk => hk) trivial (Below.refl _ _) (Nat.le_refl _) (by decide) ?_; (case hd => rfl); (case hg => rfl); (case hr => first | (go_simp; done) | (go_simp; rfl)); (case hp => exact (Reps.one rfl (Reps.one rfl (Reps.one rfl (Reps.one rfl (Reps.one rfl (Reps.one rfl (Reps.one rfl (Reps.one rfl (Reps.none _ _)))))))))); intro v_ w1 ho hbl hg_ hn_; clear hg_ hn_; replace FR := Aside0.mk (FR.out.grow hbl); obtain ⟨Ao, co, eo⟩ := Kd.R_slice ho; subst eo; obtain ⟨ad, eA, hx⟩ := Kd.at_string (Kd.R_reads' ho).2.2 jc hjc0 hjc1; subst eA; clear ho hbl; have hxc := hx; clear hx; have HW1 := Aside0.mk (show w.heap.size ≤ w1.heap.size ∧ g4 < w1.heap.size ∧ g6 < w1.heap.size ∧ g < w.heap.size from ⟨FR.out.kb.size, FR.out.lt4, FR.out.lt6, FR.out.glt⟩))
      | ((with_reducible refine gate_dst (N := 37) rfl ?_); refine wpList_load_row rfl 59 (.tmp 4) rfl g4 (by rfl) 59 _ (0, 0) _ FR.out.b4 Tryd.underlying59 rfl (by kernel_rfl) ?_)
      | (go_at_call 47; refine (HOF.out w1 (FR.out.input HIO.out HFN.out)).mono ?_; rintro e w2 ⟨rfl, hst, hk⟩; replace FR := Aside0.mk (FR.out.turn hst hk); clear hst hk HOF)
      | ((with_reducible refine gate_store (t := 26) (p := 6) rfl ?_); refine ev_store rfl rfl 26 6 (.tmp 39) rfl g6 #[.int .i64 X.f0, .string X.f1, .int .i64 X.f2.f0, .int .i64 X.f2.f1, .string X.f2.f2, .string X.f3, .string X.f4, .slice none 0 0] (by rfl) (by rfl) 26 _ FR.out.b6 (by kernel_rfl) rfl (one8 _ _ _ _ _ _ _ _ _ _) ?_; intro wz hbz hkz; replace FR := Aside0.mk (FR.out.result hbz hkz); clear hbz hkz))
    refine bodyPost_ret (results_cell_row rfl _ _ g6 26 _ (0, 0) _ rfl FR.out.b6 Tryd.underlying26 rfl (by kernel_rfl)) rfl ?_
    exact ⟨none, 0, by rw [hkids.out]; rfl, FR.out.outN hkids.out⟩

set_option maxHeartbeats 8000000 in
set_option maxRecDepth 100000 in
theorem truth_un (d d' : Int) (hdd : IntKind.i64.wrap (d - 1) = d') (g : Nat) (A0 : Option Addr) (c0 : Nat) (A2 : Option Addr) (c2 : Nat) (A1 : Option Addr) (c1 : Nat) (l : List Int) (vars : List Slot) (own : Slot) (a many : Int) (w : World) (hin : FIn w g A0 c0 A2 c2 A1 c1 l vars own many a) (X1 : S26) (a3 : Int) (hrec : ∀ W, FIn W g A0 c0 A2 c2 A1 c1 l vars own many (nx l a).2 → Calls Tryd.prog 32 #[.pointer (some ⟨g, 0, none⟩), .agg #[.string own.f0, .slice A1 own.f1.length c1], .int .i64 d'] W fun e w' => ∃ A c, e = .returned (EV X1 (.slice A (X1).f5.length c)) ∧ FOut W w' g A0 c0 A2 c2 l vars many a3 X1 A c) (hm : Int.tmod (nx l a).1 16 = 2) (hd : 0 < d) :
    Calls Tryd.prog 32 #[.pointer (some ⟨g, 0, none⟩), .agg #[.string own.f0, .slice A1 own.f1.length c1], .int .i64 d] w fun e w' => ∃ A c, e = .returned (EV (unE ⟨#[33]⟩ X1) (.slice A ((unE ⟨#[33]⟩ X1)).f5.length c)) ∧ FOut w w' g A0 c0 A2 c2 l vars many a3 (unE ⟨#[33]⟩ X1) A c := by
  have HREC := Lib.hid hrec
  clear hrec
  have hu26 := Tryd.underlying26
  have hu59 := Tryd.underlying59
  have hu23 := Tryd.underlying23
  have HIN := Aside0.mk hin
  have hb := hin.fed.byte
  have HN := Lib.hid (fun wc hs hfl => feed_next g A0 c0 (.slice A2 vars.length c2) l a many wc hs hfl hin.fed)
  have HFN := Aside0.mk hin.fed.next
  have HIO := Aside0.mk hin
  generalize (nx l a).1 = b at HN hb hm ⊢
  generalize (nx l a).2 = a2 at HN HFN HREC ⊢
  clear hin
  obtain ⟨hb0, hb1⟩ := hb
  obtain ⟨m, hmm⟩ : ∃ m, Int.tmod b 16 = m := ⟨_, rfl⟩
  have hme : b % 16 = m := by rw [← Int.tmod_eq_emod_of_nonneg hb0]; exact hmm
  rw [hmm] at hm
  have HMM := Aside0.mk hmm
  clear hmm
  subst hm
  obtain ⟨q, hq⟩ : ∃ q, Int.tdiv b 16 = q := ⟨_, rfl⟩
  have hqe : b / 16 = q := by rw [← Int.tdiv_eq_ediv_of_nonneg hb0]; exact hq
  have hq0 : 0 ≤ q := by omega
  have hwq : IntKind.i64.wrap q = q := by rw [i64_w]; unfold wrap64; omega
  try rw [hq]
  obtain ⟨jc, hjc⟩ : ∃ j, Int.tmod q 8 = j := ⟨_, rfl⟩
  have hjce : q % 8 = jc := by rw [← Int.tmod_eq_emod_of_nonneg hq0]; exact hjc
  try rw [hjc]
  have hjc0 : 0 ≤ jc := by omega
  have hjc1 : jc < 8 := by omega
  have pjc0 : (0 ≤ jc) = True := eq_true hjc0
  have pjc1 : (jc < 8) = True := eq_true hjc1
  have hlenc : cmpL.length = 8 := rfl
  go_enter Tryd.func32, Tryd.ntmps32
  go_wp2_with (first
    | ((with_reducible refine gate_dst (N := 4) rfl ?_); refine box_event ?hg (N := 4) ?hd (cs := #[.string own.f0, .slice A1 own.f1.length c1]) (t := 59) ?hr ?_; (case hd => rfl); (case hg => rfl); (case hr => first | (go_simp; done) | (go_simp; rfl)); intro g4 e4 wa hbox hb4; have BK4 := Aside0.mk hbox; have E4 := Aside0.mk e4; have HWA := Aside0.mk hb4; clear hbox e4 hb4)
    | ((with_reducible refine gate_dst (N := 6) rfl ?_); refine box_event ?hg (N := 6) ?hd (cs := #[.int .i64 0, .string ⟨#[]⟩, .int .i64 0, .int .i64 0, .string ⟨#[]⟩, .string ⟨#[]⟩, .string ⟨#[]⟩, .slice none 0 0]) (t := 26) ?hr ?_; (case hd => rfl); (case hg => rfl); (case hr => first | (go_simp; done) | (go_simp; rfl)); intro g6 e6 wb hbox hb6; have FR := Aside0.mk (Frame.begin HIN.out E4.out BK4.out HWA.out (Nat.le_of_eq e6.symm) hbox hb6); clear hbox e6 hb6 BK4 E4 HWA)
    | (go_at_call 29; refine (HN.out wb FR.out.st FR.out.fl').mono ?_; rintro e wn ⟨rfl, hst, hk⟩; replace FR := Aside0.mk (FR.out.turn hst hk); clear hst hk HN)
    | ((with_reducible refine gate_dst (N := 17) rfl ?_); refine Kd.R_lit Kd.string _ 9 ?hg (N := 17) ?hd (xs := cmpL) (inner := [.string ⟨#[61, 61]⟩, .string ⟨#[33, 61]⟩, .string ⟨#[60]⟩, .string ⟨#[60, 61]⟩, .string ⟨#[62]⟩, .string ⟨#[62, 61]⟩, .string ⟨#[60, 61]⟩, .string ⟨#[62, 61]⟩]) (ok := fun _ => True) (okp := fun _ => True) ?hr ?hp (fun _ hk => hk) trivial (Below.refl _ _) (Nat.le_refl _) (by decide) ?_; (case hd => rfl); (case hg => rfl); (case hr => first | (go_simp; done) | (go_simp; rfl)); (case hp => exact (Reps.one rfl (Reps.one rfl (Reps.one rfl (Reps.one rfl (Reps.one rfl (Reps.one rfl (Reps.one rfl (Reps.one rfl (Reps.none _ _)))))))))); intro v_ w1 ho hbl hg_ hn_; clear hg_ hn_; replace FR := Aside0.mk (FR.out.grow hbl); obtain ⟨Ao, co, eo⟩ := Kd.R_slice ho; subst eo; obtain ⟨ad, eA, hx⟩ := Kd.at_string (Kd.R_reads' ho).2.2 jc hjc0 hjc1; subst eA; clear ho hbl; have hxc := hx; clear hx; have HW1 := Aside0.mk (show w.heap.size ≤ w1.heap.size ∧ g4 < w1.heap.size ∧ g6 < w1.heap.size ∧ g < w.heap.size from ⟨FR.out.kb.size, FR.out.lt4, FR.out.lt6, FR.out.glt⟩))
    | ((with_reducible refine gate_dst (N := 49) rfl ?_); refine wpList_load_row rfl 59 (.tmp 4) rfl g4 (by rfl) 59 _ (0, 0) _ FR.out.b4 Tryd.underlying59 rfl (by kernel_rfl) ?_)
    | (go_at_call 32; refine (HREC.out w1 (FR.out.input HIO.out HFN.out)).mono ?_; rintro e w2 ⟨A3, c3, rfl, ho3⟩; have Hw2 := Aside0.mk (show w1.heap.size ≤ w2.heap.size from ho3.kb.size); have NX := Aside0.mk (N_made_between ho3.kids); replace FR := Aside0.mk (FR.out.turn ho3.st ho3.kb); clear ho3 HREC)
    | ((with_reducible refine gate_dst (N := 53) rfl ?_); refine Kd.N_lit k26 _ 26 ?hg (N' := 53) ?hd (xs := [X1]) (inner := [.int .i64 X1.f0, .string X1.f1, .int .i64 X1.f2.f0, .int .i64 X1.f2.f1, .string X1.f2.f2, .string X1.f3, .string X1.f4, .slice A3 X1.f5.length c3]) (ok := fun k => w1.heap.size ≤ k) (okp := fun k => w1.heap.size ≤ k ∧ k < w2.heap.size) ?hr (reps1 (fk_of (Kd.N_F NX.out) (Kd.N_reads' NX.out).2.1)) (fun _ h => h.1) Hw2.out (Below.refl _ _) (Nat.le_refl _) (by simp) ?_; (case hd => rfl); (case hg => rfl); (case hr => first | (go_simp; done) | (go_simp; rfl)); intro vL wL ho hbl hg_ hn_; clear hg_ hn_; replace FR := Aside0.mk (FR.out.grow hbl); obtain ⟨AL, cL, eL⟩ := Kd.N_slice ho; subst eL; have HNL := Aside0.mk ho; clear ho hbl)
    | ((with_reducible refine gate_store (t := 26) (p := 6) rfl ?_); refine ev_store rfl rfl 26 6 (.tmp 54) rfl g6 #[.int .i64 3, .string ⟨#[33]⟩, .int .i64 0, .int .i64 0, .string ⟨#[]⟩, .string ⟨#[]⟩, .string ⟨#[]⟩, .slice AL [X1].length cL] (by rfl) (by rfl) 26 _ FR.out.b6 (by kernel_rfl) rfl (one8 _ _ _ _ _ _ _ _ _ _) ?_; intro wz hbz hkz; have HNZ := Aside0.mk (Kd.N_step HNL.out (fun k hk hlt => hkz.block k hlt (by have h1_ := HW1.out; omega))); replace FR := Aside0.mk (FR.out.result hbz hkz); clear hbz hkz))
  refine bodyPost_ret (results_cell_row rfl _ _ g6 26 _ (0, 0) _ rfl FR.out.b6 Tryd.underlying26 rfl (by kernel_rfl)) rfl ?_
  exact ⟨AL, cL, rfl, FR.out.out (x := unE ⟨#[33]⟩ X1) (B := w2.heap.size) (ok := fun k => w1.heap.size ≤ k) (by have h1_ := HW1.out; have h2_ := Hw2.out; omega) (fun k hk => (by have h1_ := HW1.out; omega)) HNZ.out⟩

set_option maxHeartbeats 8000000 in
set_option maxRecDepth 100000 in
theorem truth_text (d : Int) (g : Nat) (A0 : Option Addr) (c0 : Nat) (A2 : Option Addr) (c2 : Nat) (A1 : Option Addr) (c1 : Nat) (l : List Int) (vars : List Slot) (own : Slot) (a many : Int) (w : World) (hin : FIn w g A0 c0 A2 c2 A1 c1 l vars own many a) (X1 X2 : S26) (a3 a4 : Int) (hrec : ∀ W, FIn W g A0 c0 A2 c2 A1 c1 l vars own many (nx l a).2 → Calls Tryd.prog 31 #[.pointer (some ⟨g, 0, none⟩), .agg #[.string own.f0, .slice A1 own.f1.length c1], .int .i64 1] W fun e w' => ∃ A c, e = .returned (EV X1 (.slice A (X1).f5.length c)) ∧ FOut W w' g A0 c0 A2 c2 l vars many a3 X1 A c) (hrec2 : ∀ W, FIn W g A0 c0 A2 c2 A1 c1 l vars own many a3 → Calls Tryd.prog 31 #[.pointer (some ⟨g, 0, none⟩), .agg #[.string own.f0, .slice A1 own.f1.length c1], .int .i64 1] W fun e w' => ∃ A c, e = .returned (EV X2 (.slice A (X2).f5.length c)) ∧ FOut W w' g A0 c0 A2 c2 l vars many a4 X2 A c) (hf3 : Fed l a3) (hm : Int.tmod (nx l a).1 16 = 6) :
    Calls Tryd.prog 32 #[.pointer (some ⟨g, 0, none⟩), .agg #[.string own.f0, .slice A1 own.f1.length c1], .int .i64 d] w fun e w' => ∃ A c, e = .returned (EV (binE (rdOf ByteArray.empty cmpL (Int.tmod (Int.tdiv (nx l a).1 16) 8)) X1 X2) (.slice A ((binE (rdOf ByteArray.empty cmpL (Int.tmod (Int.tdiv (nx l a).1 16) 8)) X1 X2)).f5.length c)) ∧ FOut w w' g A0 c0 A2 c2 l vars many a4 (binE (rdOf ByteArray.empty cmpL (Int.tmod (Int.tdiv (nx l a).1 16) 8)) X1 X2) A c := by
  have HREC := Lib.hid hrec
  have HREC2 := Lib.hid hrec2
  have HF3 := Aside0.mk hf3
  clear hrec hrec2 hf3
  have hu26 := Tryd.underlying26
  have hu59 := Tryd.underlying59
  have hu23 := Tryd.underlying23
  have HIN := Aside0.mk hin
  have hb := hin.fed.byte
  have HN := Lib.hid (fun wc hs hfl => feed_next g A0 c0 (.slice A2 vars.length c2) l a many wc hs hfl hin.fed)
  have HFN := Aside0.mk hin.fed.next
  have HIO := Aside0.mk hin
  generalize (nx l a).1 = b at HN hb hm ⊢
  generalize (nx l a).2 = a2 at HN HFN HREC ⊢
  clear hin
  obtain ⟨hb0, hb1⟩ := hb
  obtain ⟨m, hmm⟩ : ∃ m, Int.tmod b 16 = m := ⟨_, rfl⟩
  have hme : b % 16 = m := by rw [← Int.tmod_eq_emod_of_nonneg hb0]; exact hmm
  rw [hmm] at hm
  have HMM := Aside0.mk hmm
  clear hmm
  subst hm
  obtain ⟨q, hq⟩ : ∃ q, Int.tdiv b 16 = q := ⟨_, rfl⟩
  have hqe : b / 16 = q := by rw [← Int.tdiv_eq_ediv_of_nonneg hb0]; exact hq
  have hq0 : 0 ≤ q := by omega
  have hwq : IntKind.i64.wrap q = q := by rw [i64_w]; unfold wrap64; omega
  try rw [hq]
  obtain ⟨jc, hjc⟩ : ∃ j, Int.tmod q 8 = j := ⟨_, rfl⟩
  have hjce : q % 8 = jc := by rw [← Int.tmod_eq_emod_of_nonneg hq0]; exact hjc
  try rw [hjc]
  have hjc0 : 0 ≤ jc := by omega
  have hjc1 : jc < 8 := by omega
  have pjc0 : (0 ≤ jc) = True := eq_true hjc0
  have pjc1 : (jc < 8) = True := eq_true hjc1
  have hlenc : cmpL.length = 8 := rfl
  go_enter Tryd.func32, Tryd.ntmps32
  go_wp2_with (first
    | ((with_reducible refine gate_dst (N := 4) rfl ?_); refine box_event ?hg (N := 4) ?hd (cs := #[.string own.f0, .slice A1 own.f1.length c1]) (t := 59) ?hr ?_; (case hd => rfl); (case hg => rfl); (case hr => first | (go_simp; done) | (go_simp; rfl)); intro g4 e4 wa hbox hb4; have BK4 := Aside0.mk hbox; have E4 := Aside0.mk e4; have HWA := Aside0.mk hb4; clear hbox e4 hb4)
    | ((with_reducible refine gate_dst (N := 6) rfl ?_); refine box_event ?hg (N := 6) ?hd (cs := #[.int .i64 0, .string ⟨#[]⟩, .int .i64 0, .int .i64 0, .string ⟨#[]⟩, .string ⟨#[]⟩, .string ⟨#[]⟩, .slice none 0 0]) (t := 26) ?hr ?_; (case hd => rfl); (case hg => rfl); (case hr => first | (go_simp; done) | (go_simp; rfl)); intro g6 e6 wb hbox hb6; have FR := Aside0.mk (Frame.begin HIN.out E4.out BK4.out HWA.out (Nat.le_of_eq e6.symm) hbox hb6); clear hbox e6 hb6 BK4 E4 HWA)
    | (go_at_call 29; refine (HN.out wb FR.out.st FR.out.fl').mono ?_; rintro e wn ⟨rfl, hst, hk⟩; replace FR := Aside0.mk (FR.out.turn hst hk); clear hst hk HN)
    | ((with_reducible refine gate_dst (N := 17) rfl ?_); refine Kd.R_lit Kd.string _ 9 ?hg (N := 17) ?hd (xs := cmpL) (inner := [.string ⟨#[61, 61]⟩, .string ⟨#[33, 61]⟩, .string ⟨#[60]⟩, .string ⟨#[60, 61]⟩, .string ⟨#[62]⟩, .string ⟨#[62, 61]⟩, .string ⟨#[60, 61]⟩, .string ⟨#[62, 61]⟩]) (ok := fun _ => True) (okp := fun _ => True) ?hr ?hp (fun _ hk => hk) trivial (Below.refl _ _) (Nat.le_refl _) (by decide) ?_; (case hd => rfl); (case hg => rfl); (case hr => first | (go_simp; done) | (go_simp; rfl)); (case hp => exact (Reps.one rfl (Reps.one rfl (Reps.one rfl (Reps.one rfl (Reps.one rfl (Reps.one rfl (Reps.one rfl (Reps.one rfl (Reps.none _ _)))))))))); intro v_ w1 ho hbl hg_ hn_; clear hg_ hn_; replace FR := Aside0.mk (FR.out.grow hbl); obtain ⟨Ao, co, eo⟩ := Kd.R_slice ho; subst eo; obtain ⟨ad, eA, hx⟩ := Kd.at_string (Kd.R_reads' ho).2.2 jc hjc0 hjc1; subst eA; clear ho hbl; have hxc := hx; clear hx; have HW1 := Aside0.mk (show w.heap.size ≤ w1.heap.size ∧ g4 < w1.heap.size ∧ g6 < w1.heap.size ∧ g < w.heap.size from ⟨FR.out.kb.size, FR.out.lt4, FR.out.lt6, FR.out.glt⟩))
    | ((with_reducible refine gate_dst (N := 88) rfl ?_); refine wpList_load_row rfl 59 (.tmp 4) rfl g4 (by rfl) 59 _ (0, 0) _ FR.out.b4 Tryd.underlying59 rfl (by kernel_rfl) ?_)
    | (go_at_call 31; refine (HREC.out w1 (FR.out.input HIO.out HFN.out)).mono ?_; rintro e w2 ⟨A3, c3, rfl, ho3⟩; have Hw2 := Aside0.mk (show w1.heap.size ≤ w2.heap.size from ho3.kb.size); have NX := Aside0.mk (N_made_between ho3.kids); replace FR := Aside0.mk (FR.out.turn ho3.st ho3.kb); clear ho3 HREC)
    | ((with_reducible refine gate_dst (N := 11) rfl ?_); refine box_event ?hg (N := 11) ?hd (cs := #[.int .i64 0, .string ⟨#[]⟩, .int .i64 0, .int .i64 0, .string ⟨#[]⟩, .string ⟨#[]⟩, .string ⟨#[]⟩, .slice none 0 0]) (t := 26) ?hr ?_; (case hd => rfl); (case hg => rfl); (case hr => first | (go_simp; done) | (go_simp; rfl)); intro g8 e8 w3 hbox hb_; have B8 := Aside0.mk hbox; have E11 := Aside0.mk (show g8 = w2.heap.size from e8); have HS11 := Aside0.mk (show w2.heap.size ≤ w3.heap.size from hb_.size); replace NX := Aside0.mk (Kd.N_below NX.out hb_); replace FR := Aside0.mk (FR.out.grow hb_); clear hbox e8 hb_)
    | ((with_reducible refine gate_store (t := 26) (p := 11) rfl ?_); refine ev_store rfl rfl 26 11 (.tmp 89) rfl g8 #[.int .i64 X1.f0, .string X1.f1, .int .i64 X1.f2.f0, .int .i64 X1.f2.f1, .string X1.f2.f2, .string X1.f3, .string X1.f4, .slice A3 X1.f5.length c3] (by rfl) (by rfl) 26 _ B8.out (by kernel_rfl) rfl (one8' _ _ _) ?_; intro w4 hbz hkz; replace B8 := Aside0.mk hbz; have HT11 := Aside0.mk hkz.size; replace NX := Aside0.mk (N_kb NX.out hkz (.inr (by have h1_ := HW1.out; have h2_ := Hw2.out; have h8_ := E11.out; omega))); replace FR := Aside0.mk (FR.out.other (by have h1_ := HW1.out; have h2_ := Hw2.out; have h8_ := E11.out; omega) (by have h1_ := HW1.out; have h2_ := Hw2.out; have h8_ := E11.out; omega) (by have h1_ := HW1.out; have h2_ := Hw2.out; have h8_ := E11.out; omega) hkz); clear hbz hkz)
    | ((with_reducible refine gate_dst (N := 91) rfl ?_); refine wpList_load_row rfl 59 (.tmp 4) rfl g4 (by rfl) 59 _ (0, 0) _ FR.out.b4 Tryd.underlying59 rfl (by kernel_rfl) ?_)
    | (go_at_call 31; refine (HREC2.out w4 (FR.out.input HIO.out HF3.out)).mono ?_; rintro e w5 ⟨A4, c4, rfl, ho3⟩; have Hw5 := Aside0.mk (show w4.heap.size ≤ w5.heap.size from ho3.kb.size); have NY := Aside0.mk (N_made_between ho3.kids); have B8l := Aside0.mk (blk_lt B8.out); replace NX := Aside0.mk (N_kb NX.out ho3.kb (.inl (by have h1_ := HW1.out; omega))); replace B8 := Aside0.mk (ho3.kb.blk B8.out (by have h1_ := HW1.out; have h2_ := Hw2.out; have h8_ := E11.out; omega)); replace FR := Aside0.mk (FR.out.turn ho3.st ho3.kb); clear ho3 HREC2)
    | ((with_reducible refine gate_dst (N := 12) rfl ?_); refine box_event ?hg (N := 12) ?hd (cs := #[.int .i64 0, .string ⟨#[]⟩, .int .i64 0, .int .i64 0, .string ⟨#[]⟩, .string ⟨#[]⟩, .string ⟨#[]⟩, .slice none 0 0]) (t := 26) ?hr ?_; (case hd => rfl); (case hg => rfl); (case hr => first | (go_simp; done) | (go_simp; rfl)); intro g9 e9 w6 hbox hb_; have B9 := Aside0.mk hbox; have E12 := Aside0.mk (show g9 = w5.heap.size from e9); have HS12 := Aside0.mk (show w5.heap.size ≤ w6.heap.size from hb_.size); replace NX := Aside0.mk (Kd.N_below NX.out hb_); replace NY := Aside0.mk (Kd.N_below NY.out hb_); replace B8 := Aside0.mk (blk_below B8.out hb_); replace FR := Aside0.mk (FR.out.grow hb_); clear hbox e9 hb_)
    | ((with_reducible refine gate_store (t := 26) (p := 12) rfl ?_); refine ev_store rfl rfl 26 12 (.tmp 92) rfl g9 #[.int .i64 X2.f0, .string X2.f1, .int .i64 X2.f2.f0, .int .i64 X2.f2.f1, .string X2.f2.f2, .string X2.f3, .string X2.f4, .slice A4 X2.f5.length c4] (by rfl) (by rfl) 26 _ B9.out (by kernel_rfl) rfl (one8' _ _ _) ?_; intro w7 hbz hkz; replace B9 := Aside0.mk hbz; have HT12 := Aside0.mk hkz.size; replace NX := Aside0.mk (N_kb NX.out hkz (.inr (by have h1_ := HW1.out; have h2_ := Hw2.out; have h8_ := E11.out; have h3_ := HS11.out; have h4_ := HT11.out; have h5_ := Hw5.out; have h9_ := E12.out; have b8_ := B8l.out; omega))); replace NY := Aside0.mk (N_kb NY.out hkz (.inr (by have h1_ := HW1.out; have h2_ := Hw2.out; have h8_ := E11.out; have h3_ := HS11.out; have h4_ := HT11.out; have h5_ := Hw5.out; have h9_ := E12.out; have b8_ := B8l.out; omega))); replace B8 := Aside0.mk (hkz.blk B8.out (by have h1_ := HW1.out; have h2_ := Hw2.out; have h8_ := E11.out; have h3_ := HS11.out; have h4_ := HT11.out; have h5_ := Hw5.out; have h9_ := E12.out; have b8_ := B8l.out; omega)); replace FR := Aside0.mk (FR.out.other (by have h1_ := HW1.out; have h2_ := Hw2.out; have h8_ := E11.out; have h3_ := HS11.out; have h4_ := HT11.out; have h5_ := Hw5.out; have h9_ := E12.out; have b8_ := B8l.out; omega) (by have h1_ := HW1.out; have h2_ := Hw2.out; have h8_ := E11.out; have h3_ := HS11.out; have h4_ := HT11.out; have h5_ := Hw5.out; have h9_ := E12.out; have b8_ := B8l.out; omega) (by have h1_ := HW1.out; have h2_ := Hw2.out; have h8_ := E11.out; have h3_ := HS11.out; have h4_ := HT11.out; have h5_ := Hw5.out; have h9_ := E12.out; have b8_ := B8l.out; omega) hkz); clear hbz hkz)
    | ((with_reducible refine gate_dst (N := 94) rfl ?_); refine wpList_load_row rfl 26 (.tmp 11) rfl g8 (by rfl) 26 _ (0, 0) _ B8.out Tryd.underlying26 rfl (by kernel_rfl) ?_)
    | ((with_reducible refine gate_dst (N := 95) rfl ?_); refine wpList_load_row rfl 26 (.tmp 12) rfl g9 (by rfl) 26 _ (0, 0) _ B9.out Tryd.underlying26 rfl (by kernel_rfl) ?_)
    | ((with_reducible refine gate_dst (N := 96) rfl ?_); refine Kd.N_lit k26 _ 26 ?hg (N' := 96) ?hd (xs := [X1, X2]) (inner := [.int .i64 X1.f0, .string X1.f1, .int .i64 X1.f2.f0, .int .i64 X1.f2.f1, .string X1.f2.f2, .string X1.f3, .string X1.f4, .slice A3 X1.f5.length c3, .int .i64 X2.f0, .string X2.f1, .int .i64 X2.f2.f0, .int .i64 X2.f2.f1, .string X2.f2.f2, .string X2.f3, .string X2.f4, .slice A4 X2.f5.length c4]) (ok := fun k => w1.heap.size ≤ k) (okp := fun k => w1.heap.size ≤ k) ?hr (reps2 (fk_of (ok := fun k => w1.heap.size ≤ k) (Kd.F_mono (Kd.N_F NX.out) (fun k hk => hk.1)) (Kd.N_reads' NX.out).2.1) (fk_of (ok := fun k => w1.heap.size ≤ k) (Kd.F_mono (Kd.N_F NY.out) (fun k hk => Nat.le_trans (show w1.heap.size ≤ w4.heap.size from (by have h1_ := HW1.out; have h2_ := Hw2.out; have h8_ := E11.out; have h3_ := HS11.out; have h4_ := HT11.out; have h5_ := Hw5.out; have h9_ := E12.out; have h6_ := HS12.out; have h7_ := HT12.out; omega)) hk.1)) (Kd.N_reads' NY.out).2.1)) (fun _ h => h) (show w1.heap.size ≤ w7.heap.size from (by have h1_ := HW1.out; have h2_ := Hw2.out; have h8_ := E11.out; have h3_ := HS11.out; have h4_ := HT11.out; have h5_ := Hw5.out; have h9_ := E12.out; have h6_ := HS12.out; have h7_ := HT12.out; omega)) (Below.refl _ _) (Nat.le_refl _) (by simp) ?_; (case hd => rfl); (case hg => rfl); (case hr => first | (go_simp; done) | (go_simp; rfl)); intro vL wL ho hbl hg_ hn_; clear hg_ hn_; replace FR := Aside0.mk (FR.out.grow hbl); obtain ⟨AL, cL, eL⟩ := Kd.N_slice ho; subst eL; have HNL := Aside0.mk ho; clear ho hbl)
    | ((with_reducible refine gate_store (t := 26) (p := 6) rfl ?_); refine ev_store rfl rfl 26 6 (.tmp 97) rfl g6 #[.int .i64 4, .string (rdOf ByteArray.empty cmpL jc), .int .i64 0, .int .i64 0, .string ⟨#[]⟩, .string ⟨#[]⟩, .string ⟨#[]⟩, .slice AL [X1, X2].length cL] (by rfl) (by rfl) 26 _ FR.out.b6 (by kernel_rfl) rfl (one8 _ _ _ _ _ _ _ _ _ _) ?_; intro wz hbz hkz; have HNZ := Aside0.mk (Kd.N_step HNL.out (fun k hk hlt => hkz.block k hlt (by have h1_ := HW1.out; omega))); replace FR := Aside0.mk (FR.out.result hbz hkz); clear hbz hkz))
  refine bodyPost_ret (results_cell_row rfl _ _ g6 26 _ (0, 0) _ rfl FR.out.b6 Tryd.underlying26 rfl (by kernel_rfl)) rfl ?_
  exact ⟨AL, cL, rfl, FR.out.out (x := binE (rdOf ByteArray.empty cmpL jc) X1 X2) (B := w7.heap.size) (ok := fun k => w1.heap.size ≤ k) (by have h1_ := HW1.out; have h2_ := Hw2.out; have h8_ := E11.out; have h3_ := HS11.out; have h4_ := HT11.out; have h5_ := Hw5.out; have h9_ := E12.out; have h6_ := HS12.out; have h7_ := HT12.out; omega) (fun k hk => (by have h1_ := HW1.out; omega)) HNZ.out⟩

set_option maxHeartbeats 8000000 in
set_option maxRecDepth 100000 in
theorem truth_num (d : Int) (g : Nat) (A0 : Option Addr) (c0 : Nat) (A2 : Option Addr) (c2 : Nat) (A1 : Option Addr) (c1 : Nat) (l : List Int) (vars : List Slot) (own : Slot) (a many : Int) (w : World) (hin : FIn w g A0 c0 A2 c2 A1 c1 l vars own many a) (X1 X2 : S26) (a3 a4 : Int) (hrec : ∀ W, FIn W g A0 c0 A2 c2 A1 c1 l vars own many (nx l a).2 → Calls Tryd.prog 30 #[.pointer (some ⟨g, 0, none⟩), .agg #[.string own.f0, .slice A1 own.f1.length c1], .int .i64 1] W fun e w' => ∃ A c, e = .returned (EV X1 (.slice A (X1).f5.length c)) ∧ FOut W w' g A0 c0 A2 c2 l vars many a3 X1 A c) (hrec2 : ∀ W, FIn W g A0 c0 A2 c2 A1 c1 l vars own many a3 → Calls Tryd.prog 30 #[.pointer (some ⟨g, 0, none⟩), .agg #[.string own.f0, .slice A1 own.f1.length c1], .int .i64 1] W fun e w' => ∃ A c, e = .returned (EV X2 (.slice A (X2).f5.length c)) ∧ FOut W w' g A0 c0 A2 c2 l vars many a4 X2 A c) (hf3 : Fed l a3) (hm : Int.tmod (nx l a).1 16 ≠ 0) (hm1 : Int.tmod (nx l a).1 16 ≠ 1) (hm6 : Int.tmod (nx l a).1 16 ≠ 6) (hm2 : 0 < d → 6 ≤ Int.tmod (nx l a).1 16) :
    Calls Tryd.prog 32 #[.pointer (some ⟨g, 0, none⟩), .agg #[.string own.f0, .slice A1 own.f1.length c1], .int .i64 d] w fun e w' => ∃ A c, e = .returned (EV (binE (rdOf ByteArray.empty cmpL (Int.tmod (Int.tdiv (nx l a).1 16) 8)) X1 X2) (.slice A ((binE (rdOf ByteArray.empty cmpL (Int.tmod (Int.tdiv (nx l a).1 16) 8)) X1 X2)).f5.length c)) ∧ FOut w w' g A0 c0 A2 c2 l vars many a4 (binE (rdOf ByteArray.empty cmpL (Int.tmod (Int.tdiv (nx l a).1 16) 8)) X1 X2) A c := by
  have HREC := Lib.hid hrec
  have HREC2 := Lib.hid hrec2
  have HF3 := Aside0.mk hf3
  clear hrec hrec2 hf3
  have hu26 := Tryd.underlying26
  have hu59 := Tryd.underlying59
  have hu23 := Tryd.underlying23
  have HIN := Aside0.mk hin
  have hb := hin.fed.byte
  have HN := Lib.hid (fun wc hs hfl => feed_next g A0 c0 (.slice A2 vars.length c2) l a many wc hs hfl hin.fed)
  have HFN := Aside0.mk hin.fed.next
  have HIO := Aside0.mk hin
  generalize (nx l a).1 = b at HN hb hm hm1 hm6 hm2 ⊢
  generalize (nx l a).2 = a2 at HN HFN HREC ⊢
  clear hin
  obtain ⟨hb0, hb1⟩ := hb
  obtain ⟨m, hmm⟩ : ∃ m, Int.tmod b 16 = m := ⟨_, rfl⟩
  have hme : b % 16 = m := by rw [← Int.tmod_eq_emod_of_nonneg hb0]; exact hmm
  rw [hmm] at hm hm1 hm6 hm2
  have HMM := Aside0.mk hmm
  clear hmm
  have e0 : (m == 0) = false := beq_eq_false_iff_ne.2 hm
  have e1 : (m == 1) = false := beq_eq_false_iff_ne.2 hm1
  have e6 : (m == 6) = false := beq_eq_false_iff_ne.2 hm6
  obtain ⟨q, hq⟩ : ∃ q, Int.tdiv b 16 = q := ⟨_, rfl⟩
  have hqe : b / 16 = q := by rw [← Int.tdiv_eq_ediv_of_nonneg hb0]; exact hq
  have hq0 : 0 ≤ q := by omega
  have hwq : IntKind.i64.wrap q = q := by rw [i64_w]; unfold wrap64; omega
  try rw [hq]
  obtain ⟨jc, hjc⟩ : ∃ j, Int.tmod q 8 = j := ⟨_, rfl⟩
  have hjce : q % 8 = jc := by rw [← Int.tmod_eq_emod_of_nonneg hq0]; exact hjc
  try rw [hjc]
  have hjc0 : 0 ≤ jc := by omega
  have hjc1 : jc < 8 := by omega
  have pjc0 : (0 ≤ jc) = True := eq_true hjc0
  have pjc1 : (jc < 8) = True := eq_true hjc1
  have hlenc : cmpL.length = 8 := rfl
  have hcase : (6 ≤ m ∧ m ≠ 2 ∧ ¬ m < 6) ∨ (m = 2 ∧ ¬ 0 < d) ∨ (m ≠ 2 ∧ m < 6 ∧ ¬ 0 < d) := by omega
  clear hm2
  rcases hcase with ⟨_, e2, e3⟩ | ⟨rfl, e3⟩ | ⟨e2, e3, e4⟩
  have e5 : (m == 2) = false := beq_eq_false_iff_ne.2 e2
  rotate_left 2
  have e5 : (m == 2) = false := beq_eq_false_iff_ne.2 e2
  all_goals
    go_enter Tryd.func32, Tryd.ntmps32
    go_wp2_with (first
      | ((with_reducible refine gate_dst (N := 4) rfl ?_); refine box_event ?hg (N := 4) ?hd (cs := #[.string own.f0, .slice A1 own.f1.length c1]) (t := 59) ?hr ?_; (case hd => rfl); (case hg => rfl); (case hr => first | (go_simp; done) | (go_simp; rfl)); intro g4 e4 wa hbox hb4; have BK4 := Aside0.mk hbox; have E4 := Aside0.mk e4; have HWA := Aside0.mk hb4; clear hbox e4 hb4)
      | ((with_reducible refine gate_dst (N := 6) rfl ?_); refine box_event ?hg (N := 6) ?hd (cs := #[.int .i64 0, .string ⟨#[]⟩, .int .i64 0, .int .i64 0, .string ⟨#[]⟩, .string ⟨#[]⟩, .string ⟨#[]⟩, .slice none 0 0]) (t := 26) ?hr ?_; (case hd => rfl); (case hg => rfl); (case hr => first | (go_simp; done) | (go_simp; rfl)); intro g6 e6 wb hbox hb6; have FR := Aside0.mk (Frame.begin HIN.out E4.out BK4.out HWA.out (Nat.le_of_eq e6.symm) hbox hb6); clear hbox e6 hb6 BK4 E4 HWA)
      | (go_at_call 29; refine (HN.out wb FR.out.st FR.out.fl').mono ?_; rintro e wn ⟨rfl, hst, hk⟩; replace FR := Aside0.mk (FR.out.turn hst hk); clear hst hk HN)
      | ((with_reducible refine gate_dst (N := 17) rfl ?_); refine Kd.R_lit Kd.string _ 9 ?hg (N := 17) ?hd (xs := cmpL) (inner := [.string ⟨#[61, 61]⟩, .string ⟨#[33, 61]⟩, .string ⟨#[60]⟩, .string ⟨#[60, 61]⟩, .string ⟨#[62]⟩, .string ⟨#[62, 61]⟩, .string ⟨#[60, 61]⟩, .string ⟨#[62, 61]⟩]) (ok := fun _ => True) (okp := fun _ => True) ?hr ?hp (fun _ hk => hk) trivial (Below.refl _ _) (Nat.le_refl _) (by decide) ?_; (case hd => rfl); (case hg => rfl); (case hr => first | (go_simp; done) | (go_simp; rfl)); (case hp => exact (Reps.one rfl (Reps.one rfl (Reps.one rfl (Reps.one rfl (Reps.one rfl (Reps.one rfl (Reps.one rfl (Reps.one rfl (Reps.none _ _)))))))))); intro v_ w1 ho hbl hg_ hn_; clear hg_ hn_; replace FR := Aside0.mk (FR.out.grow hbl); obtain ⟨Ao, co, eo⟩ := Kd.R_slice ho; subst eo; obtain ⟨ad, eA, hx⟩ := Kd.at_string (Kd.R_reads' ho).2.2 jc hjc0 hjc1; subst eA; clear ho hbl; have hxc := hx; clear hx; have HW1 := Aside0.mk (show w.heap.size ≤ w1.heap.size ∧ g4 < w1.heap.size ∧ g6 < w1.heap.size ∧ g < w.heap.size from ⟨FR.out.kb.size, FR.out.lt4, FR.out.lt6, FR.out.glt⟩))
      | ((with_reducible refine gate_dst (N := 99) rfl ?_); refine wpList_load_row rfl 59 (.tmp 4) rfl g4 (by rfl) 59 _ (0, 0) _ FR.out.b4 Tryd.underlying59 rfl (by kernel_rfl) ?_)
      | (go_at_call 30; refine (HREC.out w1 (FR.out.input HIO.out HFN.out)).mono ?_; rintro e w2 ⟨A3, c3, rfl, ho3⟩; have Hw2 := Aside0.mk (show w1.heap.size ≤ w2.heap.size from ho3.kb.size); have NX := Aside0.mk (N_made_between ho3.kids); replace FR := Aside0.mk (FR.out.turn ho3.st ho3.kb); clear ho3 HREC)
      | ((with_reducible refine gate_dst (N := 13) rfl ?_); refine box_event ?hg (N := 13) ?hd (cs := #[.int .i64 0, .string ⟨#[]⟩, .int .i64 0, .int .i64 0, .string ⟨#[]⟩, .string ⟨#[]⟩, .string ⟨#[]⟩, .slice none 0 0]) (t := 26) ?hr ?_; (case hd => rfl); (case hg => rfl); (case hr => first | (go_simp; done) | (go_simp; rfl)); intro g8 e8 w3 hbox hb_; have B8 := Aside0.mk hbox; have E13 := Aside0.mk (show g8 = w2.heap.size from e8); have HS13 := Aside0.mk (show w2.heap.size ≤ w3.heap.size from hb_.size); replace NX := Aside0.mk (Kd.N_below NX.out hb_); replace FR := Aside0.mk (FR.out.grow hb_); clear hbox e8 hb_)
      | ((with_reducible refine gate_store (t := 26) (p := 13) rfl ?_); refine ev_store rfl rfl 26 13 (.tmp 100) rfl g8 #[.int .i64 X1.f0, .string X1.f1, .int .i64 X1.f2.f0, .int .i64 X1.f2.f1, .string X1.f2.f2, .string X1.f3, .string X1.f4, .slice A3 X1.f5.length c3] (by rfl) (by rfl) 26 _ B8.out (by kernel_rfl) rfl (one8' _ _ _) ?_; intro w4 hbz hkz; replace B8 := Aside0.mk hbz; have HT13 := Aside0.mk hkz.size; replace NX := Aside0.mk (N_kb NX.out hkz (.inr (by have h1_ := HW1.out; have h2_ := Hw2.out; have h8_ := E13.out; omega))); replace FR := Aside0.mk (FR.out.other (by have h1_ := HW1.out; have h2_ := Hw2.out; have h8_ := E13.out; omega) (by have h1_ := HW1.out; have h2_ := Hw2.out; have h8_ := E13.out; omega) (by have h1_ := HW1.out; have h2_ := Hw2.out; have h8_ := E13.out; omega) hkz); clear hbz hkz)
      | ((with_reducible refine gate_dst (N := 102) rfl ?_); refine wpList_load_row rfl 59 (.tmp 4) rfl g4 (by rfl) 59 _ (0, 0) _ FR.out.b4 Tryd.underlying59 rfl (by kernel_rfl) ?_)
      | (go_at_call 30; refine (HREC2.out w4 (FR.out.input HIO.out HF3.out)).mono ?_; rintro e w5 ⟨A4, c4, rfl, ho3⟩; have Hw5 := Aside0.mk (show w4.heap.size ≤ w5.heap.size from ho3.kb.size); have NY := Aside0.mk (N_made_between ho3.kids); have B8l := Aside0.mk (blk_lt B8.out); replace NX := Aside0.mk (N_kb NX.out ho3.kb (.inl (by have h1_ := HW1.out; omega))); replace B8 := Aside0.mk (ho3.kb.blk B8.out (by have h1_ := HW1.out; have h2_ := Hw2.out; have h8_ := E13.out; omega)); replace FR := Aside0.mk (FR.out.turn ho3.st ho3.kb); clear ho3 HREC2)
      | ((with_reducible refine gate_dst (N := 14) rfl ?_); refine box_event ?hg (N := 14) ?hd (cs := #[.int .i64 0, .string ⟨#[]⟩, .int .i64 0, .int .i64 0, .string ⟨#[]⟩, .string ⟨#[]⟩, .string ⟨#[]⟩, .slice none 0 0]) (t := 26) ?hr ?_; (case hd => rfl); (case hg => rfl); (case hr => first | (go_simp; done) | (go_simp; rfl)); intro g9 e9 w6 hbox hb_; have B9 := Aside0.mk hbox; have E14 := Aside0.mk (show g9 = w5.heap.size from e9); have HS14 := Aside0.mk (show w5.heap.size ≤ w6.heap.size from hb_.size); replace NX := Aside0.mk (Kd.N_below NX.out hb_); replace NY := Aside0.mk (Kd.N_below NY.out hb_); replace B8 := Aside0.mk (blk_below B8.out hb_); replace FR := Aside0.mk (FR.out.grow hb_); clear hbox e9 hb_)
      | ((with_reducible refine gate_store (t := 26) (p := 14) rfl ?_); refine ev_store rfl rfl 26 14 (.tmp 103) rfl g9 #[.int .i64 X2.f0, .string X2.f1, .int .i64 X2.f2.f0, .int .i64 X2.f2.f1, .string X2.f2.f2, .string X2.f3, .string X2.f4, .slice A4 X2.f5.length c4] (by rfl) (by rfl) 26 _ B9.out (by kernel_rfl) rfl (one8' _ _ _) ?_; intro w7 hbz hkz; replace B9 := Aside0.mk hbz; have HT14 := Aside0.mk hkz.size; replace NX := Aside0.mk (N_kb NX.out hkz (.inr (by have h1_ := HW1.out; have h2_ := Hw2.out; have h8_ := E13.out; have h3_ := HS13.out; have h4_ := HT13.out; have h5_ := Hw5.out; have h9_ := E14.out; have b8_ := B8l.out; omega))); replace NY := Aside0.mk (N_kb NY.out hkz (.inr (by have h1_ := HW1.out; have h2_ := Hw2.out; have h8_ := E13.out; have h3_ := HS13.out; have h4_ := HT13.out; have h5_ := Hw5.out; have h9_ := E14.out; have b8_ := B8l.out; omega))); replace B8 := Aside0.mk (hkz.blk B8.out (by have h1_ := HW1.out; have h2_ := Hw2.out; have h8_ := E13.out; have h3_ := HS13.out; have h4_ := HT13.out; have h5_ := Hw5.out; have h9_ := E14.out; have b8_ := B8l.out; omega)); replace FR := Aside0.mk (FR.out.other (by have h1_ := HW1.out; have h2_ := Hw2.out; have h8_ := E13.out; have h3_ := HS13.out; have h4_ := HT13.out; have h5_ := Hw5.out; have h9_ := E14.out; have b8_ := B8l.out; omega) (by have h1_ := HW1.out; have h2_ := Hw2.out; have h8_ := E13.out; have h3_ := HS13.out; have h4_ := HT13.out; have h5_ := Hw5.out; have h9_ := E14.out; have b8_ := B8l.out; omega) (by have h1_ := HW1.out; have h2_ := Hw2.out; have h8_ := E13.out; have h3_ := HS13.out; have h4_ := HT13.out; have h5_ := Hw5.out; have h9_ := E14.out; have b8_ := B8l.out; omega) hkz); clear hbz hkz)
      | ((with_reducible refine gate_dst (N := 105) rfl ?_); refine wpList_load_row rfl 26 (.tmp 13) rfl g8 (by rfl) 26 _ (0, 0) _ B8.out Tryd.underlying26 rfl (by kernel_rfl) ?_)
      | ((with_reducible refine gate_dst (N := 106) rfl ?_); refine wpList_load_row rfl 26 (.tmp 14) rfl g9 (by rfl) 26 _ (0, 0) _ B9.out Tryd.underlying26 rfl (by kernel_rfl) ?_)
      | ((with_reducible refine gate_dst (N := 107) rfl ?_); refine Kd.N_lit k26 _ 26 ?hg (N' := 107) ?hd (xs := [X1, X2]) (inner := [.int .i64 X1.f0, .string X1.f1, .int .i64 X1.f2.f0, .int .i64 X1.f2.f1, .string X1.f2.f2, .string X1.f3, .string X1.f4, .slice A3 X1.f5.length c3, .int .i64 X2.f0, .string X2.f1, .int .i64 X2.f2.f0, .int .i64 X2.f2.f1, .string X2.f2.f2, .string X2.f3, .string X2.f4, .slice A4 X2.f5.length c4]) (ok := fun k => w1.heap.size ≤ k) (okp := fun k => w1.heap.size ≤ k) ?hr (reps2 (fk_of (ok := fun k => w1.heap.size ≤ k) (Kd.F_mono (Kd.N_F NX.out) (fun k hk => hk.1)) (Kd.N_reads' NX.out).2.1) (fk_of (ok := fun k => w1.heap.size ≤ k) (Kd.F_mono (Kd.N_F NY.out) (fun k hk => Nat.le_trans (show w1.heap.size ≤ w4.heap.size from (by have h1_ := HW1.out; have h2_ := Hw2.out; have h8_ := E13.out; have h3_ := HS13.out; have h4_ := HT13.out; have h5_ := Hw5.out; have h9_ := E14.out; have h6_ := HS14.out; have h7_ := HT14.out; omega)) hk.1)) (Kd.N_reads' NY.out).2.1)) (fun _ h => h) (show w1.heap.size ≤ w7.heap.size from (by have h1_ := HW1.out; have h2_ := Hw2.out; have h8_ := E13.out; have h3_ := HS13.out; have h4_ := HT13.out; have h5_ := Hw5.out; have h9_ := E14.out; have h6_ := HS14.out; have h7_ := HT14.out; omega)) (Below.refl _ _) (Nat.le_refl _) (by simp) ?_; (case hd => rfl); (case hg => rfl); (case hr => first | (go_simp; done) | (go_simp; rfl)); intro vL wL ho hbl hg_ hn_; clear hg_ hn_; replace FR := Aside0.mk (FR.out.grow hbl); obtain ⟨AL, cL, eL⟩ := Kd.N_slice ho; subst eL; have HNL := Aside0.mk ho; clear ho hbl)
      | ((with_reducible refine gate_store (t := 26) (p := 6) rfl ?_); refine ev_store rfl rfl 26 6 (.tmp 108) rfl g6 #[.int .i64 4, .string (rdOf ByteArray.empty cmpL jc), .int .i64 0, .int .i64 0, .string ⟨#[]⟩, .string ⟨#[]⟩, .string ⟨#[]⟩, .slice AL [X1, X2].length cL] (by rfl) (by rfl) 26 _ FR.out.b6 (by kernel_rfl) rfl (one8 _ _ _ _ _ _ _ _ _ _) ?_; intro wz hbz hkz; have HNZ := Aside0.mk (Kd.N_step HNL.out (fun k hk hlt => hkz.block k hlt (by have h1_ := HW1.out; omega))); replace FR := Aside0.mk (FR.out.result hbz hkz); clear hbz hkz))
    refine bodyPost_ret (results_cell_row rfl _ _ g6 26 _ (0, 0) _ rfl FR.out.b6 Tryd.underlying26 rfl (by kernel_rfl)) rfl ?_
    exact ⟨AL, cL, rfl, FR.out.out (x := binE (rdOf ByteArray.empty cmpL jc) X1 X2) (B := w7.heap.size) (ok := fun k => w1.heap.size ≤ k) (by have h1_ := HW1.out; have h2_ := Hw2.out; have h8_ := E13.out; have h3_ := HS13.out; have h4_ := HT13.out; have h5_ := Hw5.out; have h9_ := E14.out; have h6_ := HS14.out; have h7_ := HT14.out; omega) (fun k hk => (by have h1_ := HW1.out; omega)) HNZ.out⟩

end Go.Proofs.YtccaodehgaaheaaDoor.R
