/- The feed's truths, the drawn ones: their walk. -/
import Derived.Test.YtccaodehgaaheaaDoorFd5
namespace Go.Proofs.YtccaodehgaaheaaDoor.R
open Go.RowKit Go.Proofs.YtccaodehgaaheaaDoorW.PrintWords Go.Proofs.YtccaodehgaaheaaDoorW.PrintLast Go.Proofs.YtccaodehgaaheaaDoorW.PrintMore
set_option linter.unusedVariables false
set_option linter.unusedSimpArgs false
set_option maxHeartbeats 8000000 in
set_option maxRecDepth 100000 in
theorem truth_logic (d d' : Int) (hdd : IntKind.i64.wrap (d - 1) = d') (g : Nat) (A0 : Option Addr) (c0 : Nat) (A2 : Option Addr) (c2 : Nat) (A1 : Option Addr) (c1 : Nat) (l : List Int) (vars : List Slot) (own : Slot) (a many : Int) (w : World) (hin : FIn w g A0 c0 A2 c2 A1 c1 l vars own many a) (X1 X2 : S26) (a3 a4 : Int) (hrec : ∀ W, FIn W g A0 c0 A2 c2 A1 c1 l vars own many (nx l a).2 → Calls Tryd.prog 32 #[.pointer (some ⟨g, 0, none⟩), .agg #[.string own.f0, .slice A1 own.f1.length c1], .int .i64 d'] W fun e w' => ∃ A c, e = .returned (EV X1 (.slice A (X1).f5.length c)) ∧ FOut W w' g A0 c0 A2 c2 l vars many a3 X1 A c) (hrec2 : ∀ W, FIn W g A0 c0 A2 c2 A1 c1 l vars own many a3 → Calls Tryd.prog 32 #[.pointer (some ⟨g, 0, none⟩), .agg #[.string own.f0, .slice A1 own.f1.length c1], .int .i64 d'] W fun e w' => ∃ A c, e = .returned (EV X2 (.slice A (X2).f5.length c)) ∧ FOut W w' g A0 c0 A2 c2 l vars many a4 X2 A c) (hf3 : Fed l a3) (hm : Int.tmod (nx l a).1 16 ≠ 0) (hm1 : Int.tmod (nx l a).1 16 ≠ 1) (hm2 : Int.tmod (nx l a).1 16 ≠ 2) (hm6 : Int.tmod (nx l a).1 16 < 6) (hd : 0 < d) :
    Calls Tryd.prog 32 #[.pointer (some ⟨g, 0, none⟩), .agg #[.string own.f0, .slice A1 own.f1.length c1], .int .i64 d] w fun e w' => ∃ A c, e = .returned (EV (binE (rdOf ByteArray.empty logicL (Int.tmod (Int.tdiv (nx l a).1 16) 2)) X1 X2) (.slice A ((binE (rdOf ByteArray.empty logicL (Int.tmod (Int.tdiv (nx l a).1 16) 2)) X1 X2)).f5.length c)) ∧ FOut w w' g A0 c0 A2 c2 l vars many a4 (binE (rdOf ByteArray.empty logicL (Int.tmod (Int.tdiv (nx l a).1 16) 2)) X1 X2) A c := by
  have HREC := Lib.hid hrec
  have HREC2 := Lib.hid hrec2
  have HF3 := Aside0.mk hf3
  clear hrec hrec2 hf3
  have hu26 := Tryd.underlying26
  have hu59 := Tryd.underlying59
  have hu23 := Tryd.underlying23
  have HIN := Aside0.mk hin
  have hb := hin.fed.byte
  have HN := Lib.hid (fun wc hs hfl => feed_next g A0 c0 (.slice A2 vars.length c2) l a many wc hs hfl hin.fed)
  have HFN := Aside0.mk hin.fed.next
  have HIO := Aside0.mk hin
  generalize (nx l a).1 = b at HN hb hm hm1 hm2 hm6 ⊢
  generalize (nx l a).2 = a2 at HN HFN HREC ⊢
  clear hin
  obtain ⟨hb0, hb1⟩ := hb
  obtain ⟨m, hmm⟩ : ∃ m, Int.tmod b 16 = m := ⟨_, rfl⟩
  have hme : b % 16 = m := by rw [← Int.tmod_eq_emod_of_nonneg hb0]; exact hmm
  rw [hmm] at hm hm1 hm2 hm6
  have HMM := Aside0.mk hmm
  clear hmm
  have e0 : (m == 0) = false := beq_eq_false_iff_ne.2 hm
  have e1 : (m == 1) = false := beq_eq_false_iff_ne.2 hm1
  have e2 : (m == 2) = false := beq_eq_false_iff_ne.2 hm2
  obtain ⟨q, hq⟩ : ∃ q, Int.tdiv b 16 = q := ⟨_, rfl⟩
  have hqe : b / 16 = q := by rw [← Int.tdiv_eq_ediv_of_nonneg hb0]; exact hq
  have hq0 : 0 ≤ q := by omega
  have hwq : IntKind.i64.wrap q = q := by rw [i64_w]; unfold wrap64; omega
  rw [hq]
  obtain ⟨jc, hjc⟩ : ∃ j, Int.tmod q 8 = j := ⟨_, rfl⟩
  have hjce : q % 8 = jc := by rw [← Int.tmod_eq_emod_of_nonneg hq0]; exact hjc
  try rw [hjc]
  have hjc0 : 0 ≤ jc := by omega
  have hjc1 : jc < 8 := by omega
  have pjc0 : (0 ≤ jc) = True := eq_true hjc0
  have pjc1 : (jc < 8) = True := eq_true hjc1
  have hlenc : cmpL.length = 8 := rfl
  obtain ⟨j, hj⟩ : ∃ j, Int.tmod q 2 = j := ⟨_, rfl⟩
  have hje : q % 2 = j := by rw [← Int.tmod_eq_emod_of_nonneg hq0]; exact hj
  rw [hj]
  have hj0 : 0 ≤ j := by omega
  have hj1 : j < 2 := by omega
  have pj0 : (0 ≤ j) = True := eq_true hj0
  have pj1 : (j < 2) = True := eq_true hj1
  have hjA : (#[.string ⟨#[38, 38]⟩, .string ⟨#[124, 124]⟩] : Array Value)[j.toNat]? = some (.string (rdOf ByteArray.empty logicL j)) := by
    have hjc : j = 0 ∨ j = 1 := by omega
    rcases hjc with rfl | rfl <;> rfl
  have hjL : ([.string ⟨#[38, 38]⟩, .string ⟨#[124, 124]⟩] : List Value)[j.toNat]? = some (.string (rdOf ByteArray.empty logicL j)) := by
    have hjc : j = 0 ∨ j = 1 := by omega
    rcases hjc with rfl | rfl <;> rfl
  skip
  generalize rdOf ByteArray.empty logicL j = op at hjA hjL ⊢
  have hjG : ∀ h, (#[.string ⟨#[38, 38]⟩, .string ⟨#[124, 124]⟩] : Array Value)[j.toNat]'h = .string op := fun h => by have := Array.getElem?_eq_getElem h; rw [hjA] at this; exact (Option.some.inj this).symm
  have hjH : ∀ h, ([.string ⟨#[38, 38]⟩, .string ⟨#[124, 124]⟩] : List Value)[j.toNat]'h = .string op := fun h => by have := List.getElem?_eq_getElem h; rw [hjL] at this; exact (Option.some.inj this).symm
  go_enter Tryd.func32, Tryd.ntmps32
  go_upto_region 12 with (first
    | ((with_reducible refine gate_dst (N := 4) rfl ?_); refine box_event ?hg (N := 4) ?hd (cs := #[.string own.f0, .slice A1 own.f1.length c1]) (t := 59) ?hr ?_; (case hd => rfl); (case hg => rfl); (case hr => first | (go_simp; done) | (go_simp; rfl)); intro g4 e4 wa hbox hb4; have BK4 := Aside0.mk hbox; have E4 := Aside0.mk e4; have HWA := Aside0.mk hb4; clear hbox e4 hb4)
    | ((with_reducible refine gate_dst (N := 6) rfl ?_); refine box_event ?hg (N := 6) ?hd (cs := #[.int .i64 0, .string ⟨#[]⟩, .int .i64 0, .int .i64 0, .string ⟨#[]⟩, .string ⟨#[]⟩, .string ⟨#[]⟩, .slice none 0 0]) (t := 26) ?hr ?_; (case hd => rfl); (case hg => rfl); (case hr => first | (go_simp; done) | (go_simp; rfl)); intro g6 e6 wb hbox hb6; have FR := Aside0.mk (Frame.begin HIN.out E4.out BK4.out HWA.out (Nat.le_of_eq e6.symm) hbox hb6); clear hbox e6 hb6 BK4 E4 HWA)
    | (go_at_call 29; refine (HN.out wb FR.out.st FR.out.fl').mono ?_; rintro e wn ⟨rfl, hst, hk⟩; replace FR := Aside0.mk (FR.out.turn hst hk); clear hst hk HN)
    | ((with_reducible refine gate_dst (N := 17) rfl ?_); refine Kd.R_lit Kd.string _ 9 ?hg (N := 17) ?hd (xs := cmpL) (inner := [.string ⟨#[61, 61]⟩, .string ⟨#[33, 61]⟩, .string ⟨#[60]⟩, .string ⟨#[60, 61]⟩, .string ⟨#[62]⟩, .string ⟨#[62, 61]⟩, .string ⟨#[60, 61]⟩, .string ⟨#[62, 61]⟩]) (ok := fun _ => True) (okp := fun _ => True) ?hr ?hp (fun _ hk => hk) trivial (Below.refl _ _) (Nat.le_refl _) (by decide) ?_; (case hd => rfl); (case hg => rfl); (case hr => first | (go_simp; done) | (go_simp; rfl)); (case hp => exact (Reps.one rfl (Reps.one rfl (Reps.one rfl (Reps.one rfl (Reps.one rfl (Reps.one rfl (Reps.one rfl (Reps.one rfl (Reps.none _ _)))))))))); intro v_ w1 ho hbl hg_ hn_; clear hg_ hn_; replace FR := Aside0.mk (FR.out.grow hbl); obtain ⟨Ao, co, eo⟩ := Kd.R_slice ho; subst eo; obtain ⟨ad, eA, hx⟩ := Kd.at_string (Kd.R_reads' ho).2.2 jc hjc0 hjc1; subst eA; clear ho hbl; have hxc := hx; clear hx; have HW1 := Aside0.mk (show w.heap.size ≤ w1.heap.size ∧ g4 < w1.heap.size ∧ g6 < w1.heap.size ∧ g < w.heap.size from ⟨FR.out.kb.size, FR.out.lt4, FR.out.lt6, FR.out.glt⟩))
    | ((with_reducible refine gate_dst (N := 64) rfl ?_); refine wpList_load_row rfl 59 (.tmp 4) rfl g4 (by rfl) 59 _ (0, 0) _ FR.out.b4 Tryd.underlying59 rfl (by kernel_rfl) ?_)
    | (go_at_call 32; refine (HREC.out w1 (FR.out.input HIO.out HFN.out)).mono ?_; rintro e w2 ⟨A3, c3, rfl, ho3⟩; have Hw2 := Aside0.mk (show w1.heap.size ≤ w2.heap.size from ho3.kb.size); have NX := Aside0.mk (N_made_between ho3.kids); replace FR := Aside0.mk (FR.out.turn ho3.st ho3.kb); clear ho3 HREC)
    | ((with_reducible refine gate_dst (N := 9) rfl ?_); refine box_event ?hg (N := 9) ?hd (cs := #[.int .i64 0, .string ⟨#[]⟩, .int .i64 0, .int .i64 0, .string ⟨#[]⟩, .string ⟨#[]⟩, .string ⟨#[]⟩, .slice none 0 0]) (t := 26) ?hr ?_; (case hd => rfl); (case hg => rfl); (case hr => first | (go_simp; done) | (go_simp; rfl)); intro g8 e8 w3 hbox hb_; have B8 := Aside0.mk hbox; have E9 := Aside0.mk (show g8 = w2.heap.size from e8); have HS9 := Aside0.mk (show w2.heap.size ≤ w3.heap.size from hb_.size); replace NX := Aside0.mk (Kd.N_below NX.out hb_); replace FR := Aside0.mk (FR.out.grow hb_); clear hbox e8 hb_)
    | ((with_reducible refine gate_store (t := 26) (p := 9) rfl ?_); refine ev_store rfl rfl 26 9 (.tmp 67) rfl g8 #[.int .i64 X1.f0, .string X1.f1, .int .i64 X1.f2.f0, .int .i64 X1.f2.f1, .string X1.f2.f2, .string X1.f3, .string X1.f4, .slice A3 X1.f5.length c3] (by rfl) (by rfl) 26 _ B8.out (by kernel_rfl) rfl (one8' _ _ _) ?_; intro w4 hbz hkz; replace B8 := Aside0.mk hbz; have HT9 := Aside0.mk hkz.size; replace NX := Aside0.mk (N_kb NX.out hkz (.inr (by have h1_ := HW1.out; have h2_ := Hw2.out; have h8_ := E9.out; omega))); replace FR := Aside0.mk (FR.out.other (by have h1_ := HW1.out; have h2_ := Hw2.out; have h8_ := E9.out; omega) (by have h1_ := HW1.out; have h2_ := Hw2.out; have h8_ := E9.out; omega) (by have h1_ := HW1.out; have h2_ := Hw2.out; have h8_ := E9.out; omega) hkz); clear hbz hkz)
    | ((with_reducible refine gate_dst (N := 69) rfl ?_); refine wpList_load_row rfl 59 (.tmp 4) rfl g4 (by rfl) 59 _ (0, 0) _ FR.out.b4 Tryd.underlying59 rfl (by kernel_rfl) ?_)
    | (go_at_call 32; refine (HREC2.out w4 (FR.out.input HIO.out HF3.out)).mono ?_; rintro e w5 ⟨A4, c4, rfl, ho3⟩; have Hw5 := Aside0.mk (show w4.heap.size ≤ w5.heap.size from ho3.kb.size); have NY := Aside0.mk (N_made_between ho3.kids); have B8l := Aside0.mk (blk_lt B8.out); replace NX := Aside0.mk (N_kb NX.out ho3.kb (.inl (by have h1_ := HW1.out; omega))); replace B8 := Aside0.mk (ho3.kb.blk B8.out (by have h1_ := HW1.out; have h2_ := Hw2.out; have h8_ := E9.out; omega)); replace FR := Aside0.mk (FR.out.turn ho3.st ho3.kb); clear ho3 HREC2)
    | ((with_reducible refine gate_dst (N := 10) rfl ?_); refine box_event ?hg (N := 10) ?hd (cs := #[.int .i64 0, .string ⟨#[]⟩, .int .i64 0, .int .i64 0, .string ⟨#[]⟩, .string ⟨#[]⟩, .string ⟨#[]⟩, .slice none 0 0]) (t := 26) ?hr ?_; (case hd => rfl); (case hg => rfl); (case hr => first | (go_simp; done) | (go_simp; rfl)); intro g9 e9 w6 hbox hb_; have B9 := Aside0.mk hbox; have E10 := Aside0.mk (show g9 = w5.heap.size from e9); have HS10 := Aside0.mk (show w5.heap.size ≤ w6.heap.size from hb_.size); replace NX := Aside0.mk (Kd.N_below NX.out hb_); replace NY := Aside0.mk (Kd.N_below NY.out hb_); replace B8 := Aside0.mk (blk_below B8.out hb_); replace FR := Aside0.mk (FR.out.grow hb_); clear hbox e9 hb_)
    | ((with_reducible refine gate_store (t := 26) (p := 10) rfl ?_); refine ev_store rfl rfl 26 10 (.tmp 72) rfl g9 #[.int .i64 X2.f0, .string X2.f1, .int .i64 X2.f2.f0, .int .i64 X2.f2.f1, .string X2.f2.f2, .string X2.f3, .string X2.f4, .slice A4 X2.f5.length c4] (by rfl) (by rfl) 26 _ B9.out (by kernel_rfl) rfl (one8' _ _ _) ?_; intro w7 hbz hkz; replace B9 := Aside0.mk hbz; have HT10 := Aside0.mk hkz.size; replace NX := Aside0.mk (N_kb NX.out hkz (.inr (by have h1_ := HW1.out; have h2_ := Hw2.out; have h8_ := E9.out; have h3_ := HS9.out; have h4_ := HT9.out; have h5_ := Hw5.out; have h9_ := E10.out; have b8_ := B8l.out; omega))); replace NY := Aside0.mk (N_kb NY.out hkz (.inr (by have h1_ := HW1.out; have h2_ := Hw2.out; have h8_ := E9.out; have h3_ := HS9.out; have h4_ := HT9.out; have h5_ := Hw5.out; have h9_ := E10.out; have b8_ := B8l.out; omega))); replace B8 := Aside0.mk (hkz.blk B8.out (by have h1_ := HW1.out; have h2_ := Hw2.out; have h8_ := E9.out; have h3_ := HS9.out; have h4_ := HT9.out; have h5_ := Hw5.out; have h9_ := E10.out; have b8_ := B8l.out; omega)); replace FR := Aside0.mk (FR.out.other (by have h1_ := HW1.out; have h2_ := Hw2.out; have h8_ := E9.out; have h3_ := HS9.out; have h4_ := HT9.out; have h5_ := Hw5.out; have h9_ := E10.out; have b8_ := B8l.out; omega) (by have h1_ := HW1.out; have h2_ := Hw2.out; have h8_ := E9.out; have h3_ := HS9.out; have h4_ := HT9.out; have h5_ := Hw5.out; have h9_ := E10.out; have b8_ := B8l.out; omega) (by have h1_ := HW1.out; have h2_ := Hw2.out; have h8_ := E9.out; have h3_ := HS9.out; have h4_ := HT9.out; have h5_ := Hw5.out; have h9_ := E10.out; have b8_ := B8l.out; omega) hkz); clear hbz hkz))
  have H6 := Aside0.mk FR.out.b6
  obtain ⟨d0_, d1_, d2_, d3_, d4_, d5_, d6_, d7_, f0_, f1_, f2_, f3_, f4_, f5_, f6_, f7_⟩ := cells8 H6.out
  have n1_ : g6 < w7.heap.size := blk_lt H6.out
  have n2_ : g6 < w7.heap.size + 1 := Nat.lt_succ_of_lt n1_
  have BF := Lib.hid (fun op o => bin_first (lo := w1.heap.size) (l2 := w4.heap.size) op o FR.out NX.out NY.out (by have h1_ := HW1.out; have h2_ := Hw2.out; have h8_ := E9.out; have h3_ := HS9.out; have h4_ := HT9.out; have h5_ := Hw5.out; have h9_ := E10.out; have h6_ := HS10.out; have h7_ := HT10.out; omega) (by have h1_ := HW1.out; have h2_ := Hw2.out; have h8_ := E9.out; have h3_ := HS9.out; have h4_ := HT9.out; have h5_ := Hw5.out; have h9_ := E10.out; have h6_ := HS10.out; have h7_ := HT10.out; omega) (by have h1_ := HW1.out; have h2_ := Hw2.out; have h8_ := E9.out; have h3_ := HS9.out; have h4_ := HT9.out; have h5_ := Hw5.out; have h9_ := E10.out; have h6_ := HS10.out; have h7_ := HT10.out; omega) (by have h1_ := HW1.out; have h2_ := Hw2.out; have h8_ := E9.out; have h3_ := HS9.out; have h4_ := HT9.out; have h5_ := Hw5.out; have h9_ := E10.out; have h6_ := HS10.out; have h7_ := HT10.out; omega))
  have BS := Lib.hid (fun op o => bin_second (lo := w1.heap.size) (l2 := w4.heap.size) op o FR.out NX.out NY.out (by have h1_ := HW1.out; have h2_ := Hw2.out; have h8_ := E9.out; have h3_ := HS9.out; have h4_ := HT9.out; have h5_ := Hw5.out; have h9_ := E10.out; have h6_ := HS10.out; have h7_ := HT10.out; omega) (by have h1_ := HW1.out; have h2_ := Hw2.out; have h8_ := E9.out; have h3_ := HS9.out; have h4_ := HT9.out; have h5_ := Hw5.out; have h9_ := E10.out; have h6_ := HS10.out; have h7_ := HT10.out; omega) (by have h1_ := HW1.out; have h2_ := Hw2.out; have h8_ := E9.out; have h3_ := HS9.out; have h4_ := HT9.out; have h5_ := Hw5.out; have h9_ := E10.out; have h6_ := HS10.out; have h7_ := HT10.out; omega) (by have h1_ := HW1.out; have h2_ := Hw2.out; have h8_ := E9.out; have h3_ := HS9.out; have h4_ := HT9.out; have h5_ := Hw5.out; have h9_ := E10.out; have h6_ := HS10.out; have h7_ := HT10.out; omega))
  have N86 := Aside0.mk (show g8 ≠ g6 from (by have h1_ := HW1.out; have h2_ := Hw2.out; have h8_ := E9.out; have h3_ := HS9.out; have h4_ := HT9.out; have h5_ := Hw5.out; have h9_ := E10.out; have h6_ := HS10.out; have h7_ := HT10.out; omega))
  have N96 := Aside0.mk (show g9 ≠ g6 from (by have h1_ := HW1.out; have h2_ := Hw2.out; have h8_ := E9.out; have h3_ := HS9.out; have h4_ := HT9.out; have h5_ := Hw5.out; have h9_ := E10.out; have h6_ := HS10.out; have h7_ := HT10.out; omega))
  refine wp_region_noPanic ?_
  refine wp_region_held_drew (S := fun w' => w'.cell? ⟨g8, 0, none⟩ = some (.int .i64 X1.f0) ∧ w'.cell? ⟨g8, 1, none⟩ = some (.string X1.f1) ∧ w'.cell? ⟨g8, 2, none⟩ = some (.int .i64 X1.f2.f0) ∧ w'.cell? ⟨g8, 3, none⟩ = some (.int .i64 X1.f2.f1) ∧ w'.cell? ⟨g8, 4, none⟩ = some (.string X1.f2.f2) ∧ w'.cell? ⟨g8, 5, none⟩ = some (.string X1.f3) ∧ w'.cell? ⟨g8, 6, none⟩ = some (.string X1.f4) ∧ w'.cell? ⟨g8, 7, none⟩ = some (.slice A3 X1.f5.length c3) ∧ w'.cell? ⟨g9, 0, none⟩ = some (.int .i64 X2.f0) ∧ w'.cell? ⟨g9, 1, none⟩ = some (.string X2.f1) ∧ w'.cell? ⟨g9, 2, none⟩ = some (.int .i64 X2.f2.f0) ∧ w'.cell? ⟨g9, 3, none⟩ = some (.int .i64 X2.f2.f1) ∧ w'.cell? ⟨g9, 4, none⟩ = some (.string X2.f2.f2) ∧ w'.cell? ⟨g9, 5, none⟩ = some (.string X2.f3) ∧ w'.cell? ⟨g9, 6, none⟩ = some (.string X2.f4) ∧ w'.cell? ⟨g9, 7, none⟩ = some (.slice A4 X2.f5.length c4)) (by kernel_rfl) ?_ (fun hHeld => ?_)
  · (try dsimp only); exact keepT (by with_reducible repeat (first | refine blk_drew ?_ | refine blk_alloc ?_ _ | refine blk_far ?_ N86.out _ | exact B8.out)) (by with_reducible repeat (first | refine blk_drew ?_ | refine blk_alloc ?_ _ | refine blk_far ?_ N96.out _ | exact B9.out))
  refine wpAnyH_take (i := 1) (oi := _) (v := ?_) rfl (by kernel_rfl) (by kernel_rfl) (by kernel_rfl) (fun _ _ _ h => h) (Or.inl ⟨by rfl, ?_⟩) (by assumption) ?_
  rotate_left
  · (intro w_ hSw; (try dsimp only at hSw); go_simp; try with_reducible rfl)
  try simp only [Act.put, List.setIfInBounds_toArray, List.set_cons_zero, List.set_cons_succ]
  refine wpAnyH_take (i := 2) (oi := _) (v := ?_) rfl (by kernel_rfl) (by kernel_rfl) (by kernel_rfl) (fun _ _ _ h => h) (Or.inl ⟨by rfl, ?_⟩) (by assumption) ?_
  rotate_left
  · (intro w_ hSw; (try dsimp only at hSw); go_simp; try with_reducible rfl)
  try simp only [Act.put, List.setIfInBounds_toArray, List.set_cons_zero, List.set_cons_succ]
  refine wpAnyH_take (i := 3) (oi := _) (v := ?_) rfl (by kernel_rfl) (by kernel_rfl) (by kernel_rfl) (fun _ _ _ h => h) (Or.inl ⟨by rfl, ?_⟩) (by assumption) ?_
  rotate_left
  · (intro w_ hSw; (try dsimp only at hSw); go_simp; try with_reducible rfl)
  try simp only [Act.put, List.setIfInBounds_toArray, List.set_cons_zero, List.set_cons_succ]
  refine wpAnyH_take (i := 6) (oi := _) (v := ?_) rfl (by kernel_rfl) (by kernel_rfl) (by kernel_rfl) (fun _ _ _ h => h) (Or.inl ⟨by rfl, ?_⟩) (by assumption) ?_
  rotate_left
  · (intro w_ hSw; (try dsimp only at hSw); go_simp; try with_reducible rfl)
  try simp only [Act.put, List.setIfInBounds_toArray, List.set_cons_zero, List.set_cons_succ]
  refine wpAnyH_take (i := 7) (oi := _) (v := ?_) rfl (by kernel_rfl) (by kernel_rfl) (by kernel_rfl) (fun _ _ _ h => h) (Or.inl ⟨by rfl, ?_⟩) (by assumption) ?_
  rotate_left
  · (intro w_ hSw; (try dsimp only at hSw); go_simp; try with_reducible rfl)
  try simp only [Act.put, List.setIfInBounds_toArray, List.set_cons_zero, List.set_cons_succ]
  refine wpAnyH_ready (rs := [0, 8]) (by kernel_rfl) (by simp) ?_
  refine AllReadyH.cons (o := _) rfl (fun K hK => ?_) (AllReadyH.cons (o := _) rfl (fun K hK => ?_) AllReadyH.nil)
  · go_simp
    refine hK.out _ _ ?_ (fun hHeld => ?_)
    · (try dsimp only); exact keepT (by with_reducible repeat (first | refine blk_drew ?_ | refine blk_alloc ?_ _ | refine blk_far ?_ N86.out _ | exact B8.out)) (by with_reducible repeat (first | refine blk_drew ?_ | refine blk_alloc ?_ _ | refine blk_far ?_ N96.out _ | exact B9.out))
    clear hK K
    try simp only [Act.put, List.setIfInBounds_toArray, List.set_cons_zero, List.set_cons_succ]
    refine wpAnyH_take (i := 4) (oi := _) (v := ?_) rfl (by kernel_rfl) (by kernel_rfl) (by kernel_rfl) (fun _ _ _ h => h) (Or.inl ⟨by rfl, ?_⟩) (by assumption) ?_
    rotate_left
    · (intro w_ hSw; (try dsimp only at hSw); go_simp; try with_reducible rfl)
    try simp only [Act.put, List.setIfInBounds_toArray, List.set_cons_zero, List.set_cons_succ]
    refine wpAnyH_ready (rs := [5, 8]) (by kernel_rfl) (by simp) ?_
    refine AllReadyH.cons (o := _) rfl (fun K hK => ?_) (AllReadyH.cons (o := _) rfl (fun K hK => ?_) AllReadyH.nil)
    · go_simp
      refine hK.out _ _ ?_ (fun hHeld => ?_)
      · (try dsimp only); exact keepT (by with_reducible repeat (first | refine blk_drew ?_ | refine blk_alloc ?_ _ | refine blk_far ?_ N86.out _ | exact B8.out)) (by with_reducible repeat (first | refine blk_drew ?_ | refine blk_alloc ?_ _ | refine blk_far ?_ N96.out _ | exact B9.out))
      clear hK K
      try simp only [Act.put, List.setIfInBounds_toArray, List.set_cons_zero, List.set_cons_succ]
      refine wpAnyH_ready (rs := [8]) (by kernel_rfl) (by simp) ?_
      refine AllReadyH.cons (o := _) rfl (fun K hK => ?_) AllReadyH.nil
      go_simp
      refine hK.out _ _ ?_ (fun hHeld => ?_)
      · (try dsimp only); exact keepT (by with_reducible repeat (first | refine blk_drew ?_ | refine blk_alloc ?_ _ | refine blk_far ?_ N86.out _ | exact B8.out)) (by with_reducible repeat (first | refine blk_drew ?_ | refine blk_alloc ?_ _ | refine blk_far ?_ N96.out _ | exact B9.out))
      clear hK K
      try simp only [Act.put, List.setIfInBounds_toArray, List.set_cons_zero, List.set_cons_succ]
      refine wpAnyH_take (i := 9) (oi := _) (v := ?_) rfl (by kernel_rfl) (by kernel_rfl) (by kernel_rfl) (fun _ _ _ h => h) (Or.inl ⟨by rfl, ?_⟩) (by assumption) ?_
      rotate_left
      · (intro w_ hSw; (try dsimp only at hSw); go_simp; try with_reducible rfl)
      try simp only [Act.put, List.setIfInBounds_toArray, List.set_cons_zero, List.set_cons_succ]
      refine wpAnyH_ready (rs := [10]) (by kernel_rfl) (by simp) ?_
      refine AllReadyH.cons (o := _) rfl (fun K hK => ?_) AllReadyH.nil
      go_simp
      refine hK.out _ _ ?_ (fun hHeld => ?_)
      · (try dsimp only); exact keepT (by with_reducible repeat (first | refine blk_drew ?_ | refine blk_alloc ?_ _ | refine blk_far ?_ N86.out _ | exact B8.out)) (by with_reducible repeat (first | refine blk_drew ?_ | refine blk_alloc ?_ _ | refine blk_far ?_ N96.out _ | exact B9.out))
      clear hK K
      try simp only [Act.put, List.setIfInBounds_toArray, List.set_cons_zero, List.set_cons_succ]
      refine wpAnyH_done (by kernel_rfl) ?_ _
      refine NoPanic.normal ?_
      with_reducible refine at_world (Kx := fun x => Exit.then _ _ _ _ x) (BF.out _ _) ?_
      intro WE hE
      have HE := Aside0.mk hE
      clear hHeld
      clear hE BF BS B8 B9 H6 NX NY FR hjA hjL hjG hjH
      clear d0_ d1_ d2_ d3_ d4_ d5_ d6_ d7_ f0_ f1_ f2_ f3_ f4_ f5_ f6_ f7_
      go_wp2
      refine bodyPost_ret (results_cell_row rfl _ _ g6 26 _ (0, 0) _ rfl HE.out.b6 Tryd.underlying26 rfl (by kernel_rfl)) rfl ?_
      exact ⟨_, _, rfl, HE.out.out⟩
    · go_simp
      refine hK.out _ _ ?_ (fun hHeld => ?_)
      · (try dsimp only); exact keepT (by with_reducible repeat (first | refine blk_drew ?_ | refine blk_alloc ?_ _ | refine blk_far ?_ N86.out _ | exact B8.out)) (by with_reducible repeat (first | refine blk_drew ?_ | refine blk_alloc ?_ _ | refine blk_far ?_ N96.out _ | exact B9.out))
      clear hK K
      try simp only [Act.put, List.setIfInBounds_toArray, List.set_cons_zero, List.set_cons_succ]
      refine wpAnyH_ready (rs := [5]) (by kernel_rfl) (by simp) ?_
      refine AllReadyH.cons (o := _) rfl (fun K hK => ?_) AllReadyH.nil
      go_simp
      refine hK.out _ _ ?_ (fun hHeld => ?_)
      · (try dsimp only); exact keepT (by with_reducible repeat (first | refine blk_drew ?_ | refine blk_alloc ?_ _ | refine blk_far ?_ N86.out _ | exact B8.out)) (by with_reducible repeat (first | refine blk_drew ?_ | refine blk_alloc ?_ _ | refine blk_far ?_ N96.out _ | exact B9.out))
      clear hK K
      try simp only [Act.put, List.setIfInBounds_toArray, List.set_cons_zero, List.set_cons_succ]
      refine wpAnyH_take (i := 9) (oi := _) (v := ?_) rfl (by kernel_rfl) (by kernel_rfl) (by kernel_rfl) (fun _ _ _ h => h) (Or.inl ⟨by rfl, ?_⟩) (by assumption) ?_
      rotate_left
      · (intro w_ hSw; (try dsimp only at hSw); go_simp; try with_reducible rfl)
      try simp only [Act.put, List.setIfInBounds_toArray, List.set_cons_zero, List.set_cons_succ]
      refine wpAnyH_ready (rs := [10]) (by kernel_rfl) (by simp) ?_
      refine AllReadyH.cons (o := _) rfl (fun K hK => ?_) AllReadyH.nil
      go_simp
      refine hK.out _ _ ?_ (fun hHeld => ?_)
      · (try dsimp only); exact keepT (by with_reducible repeat (first | refine blk_drew ?_ | refine blk_alloc ?_ _ | refine blk_far ?_ N86.out _ | exact B8.out)) (by with_reducible repeat (first | refine blk_drew ?_ | refine blk_alloc ?_ _ | refine blk_far ?_ N96.out _ | exact B9.out))
      clear hK K
      try simp only [Act.put, List.setIfInBounds_toArray, List.set_cons_zero, List.set_cons_succ]
      refine wpAnyH_done (by kernel_rfl) ?_ _
      refine NoPanic.normal ?_
      with_reducible refine at_world (Kx := fun x => Exit.then _ _ _ _ x) (BF.out _ _) ?_
      intro WE hE
      have HE := Aside0.mk hE
      clear hHeld
      clear hE BF BS B8 B9 H6 NX NY FR hjA hjL hjG hjH
      clear d0_ d1_ d2_ d3_ d4_ d5_ d6_ d7_ f0_ f1_ f2_ f3_ f4_ f5_ f6_ f7_
      go_wp2
      refine bodyPost_ret (results_cell_row rfl _ _ g6 26 _ (0, 0) _ rfl HE.out.b6 Tryd.underlying26 rfl (by kernel_rfl)) rfl ?_
      exact ⟨_, _, rfl, HE.out.out⟩
  · go_simp
    refine hK.out _ _ ?_ (fun hHeld => ?_)
    · (try dsimp only); exact keepT (by with_reducible repeat (first | refine blk_drew ?_ | refine blk_alloc ?_ _ | refine blk_far ?_ N86.out _ | exact B8.out)) (by with_reducible repeat (first | refine blk_drew ?_ | refine blk_alloc ?_ _ | refine blk_far ?_ N96.out _ | exact B9.out))
    clear hK K
    try simp only [Act.put, List.setIfInBounds_toArray, List.set_cons_zero, List.set_cons_succ]
    refine wpAnyH_ready (rs := [0]) (by kernel_rfl) (by simp) ?_
    refine AllReadyH.cons (o := _) rfl (fun K hK => ?_) AllReadyH.nil
    go_simp
    refine hK.out _ _ ?_ (fun hHeld => ?_)
    · (try dsimp only); exact keepT (by with_reducible repeat (first | refine blk_drew ?_ | refine blk_alloc ?_ _ | refine blk_far ?_ N86.out _ | exact B8.out)) (by with_reducible repeat (first | refine blk_drew ?_ | refine blk_alloc ?_ _ | refine blk_far ?_ N96.out _ | exact B9.out))
    clear hK K
    try simp only [Act.put, List.setIfInBounds_toArray, List.set_cons_zero, List.set_cons_succ]
    refine wpAnyH_take (i := 4) (oi := _) (v := ?_) rfl (by kernel_rfl) (by kernel_rfl) (by kernel_rfl) (fun _ _ _ h => h) (Or.inl ⟨by rfl, ?_⟩) (by assumption) ?_
    rotate_left
    · (intro w_ hSw; (try dsimp only at hSw); go_simp; try with_reducible rfl)
    try simp only [Act.put, List.setIfInBounds_toArray, List.set_cons_zero, List.set_cons_succ]
    refine wpAnyH_ready (rs := [5]) (by kernel_rfl) (by simp) ?_
    refine AllReadyH.cons (o := _) rfl (fun K hK => ?_) AllReadyH.nil
    go_simp
    refine hK.out _ _ ?_ (fun hHeld => ?_)
    · (try dsimp only); exact keepT (by with_reducible repeat (first | refine blk_drew ?_ | refine blk_alloc ?_ _ | refine blk_far ?_ N86.out _ | exact B8.out)) (by with_reducible repeat (first | refine blk_drew ?_ | refine blk_alloc ?_ _ | refine blk_far ?_ N96.out _ | exact B9.out))
    clear hK K
    try simp only [Act.put, List.setIfInBounds_toArray, List.set_cons_zero, List.set_cons_succ]
    refine wpAnyH_take (i := 9) (oi := _) (v := ?_) rfl (by kernel_rfl) (by kernel_rfl) (by kernel_rfl) (fun _ _ _ h => h) (Or.inl ⟨by rfl, ?_⟩) (by assumption) ?_
    rotate_left
    · (intro w_ hSw; (try dsimp only at hSw); go_simp; try with_reducible rfl)
    try simp only [Act.put, List.setIfInBounds_toArray, List.set_cons_zero, List.set_cons_succ]
    refine wpAnyH_ready (rs := [10]) (by kernel_rfl) (by simp) ?_
    refine AllReadyH.cons (o := _) rfl (fun K hK => ?_) AllReadyH.nil
    go_simp
    refine hK.out _ _ ?_ (fun hHeld => ?_)
    · (try dsimp only); exact keepT (by with_reducible repeat (first | refine blk_drew ?_ | refine blk_alloc ?_ _ | refine blk_far ?_ N86.out _ | exact B8.out)) (by with_reducible repeat (first | refine blk_drew ?_ | refine blk_alloc ?_ _ | refine blk_far ?_ N96.out _ | exact B9.out))
    clear hK K
    try simp only [Act.put, List.setIfInBounds_toArray, List.set_cons_zero, List.set_cons_succ]
    refine wpAnyH_done (by kernel_rfl) ?_ _
    refine NoPanic.normal ?_
    with_reducible refine at_world (Kx := fun x => Exit.then _ _ _ _ x) (BS.out _ _) ?_
    intro WE hE
    have HE := Aside0.mk hE
    clear hHeld
    clear hE BF BS B8 B9 H6 NX NY FR hjA hjL hjG hjH
    clear d0_ d1_ d2_ d3_ d4_ d5_ d6_ d7_ f0_ f1_ f2_ f3_ f4_ f5_ f6_ f7_
    go_wp2
    refine bodyPost_ret (results_cell_row rfl _ _ g6 26 _ (0, 0) _ rfl HE.out.b6 Tryd.underlying26 rfl (by kernel_rfl)) rfl ?_
    exact ⟨_, _, rfl, HE.out.out⟩
end Go.Proofs.YtccaodehgaaheaaDoor.R
