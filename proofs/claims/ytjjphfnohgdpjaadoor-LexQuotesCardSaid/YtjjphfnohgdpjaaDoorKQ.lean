-- Written by this session's program mprint.py over the kit's printer (with hand-written contracts laid in). Not trusted: Lean checks it.
import Derived.Test.YtjjphfnohgdpjaaDoorK0
import Derived.Test.YtjjphfnohgdpjaaDoorK5
import Derived.Test.YtjjphfnohgdpjaaDoorK7
namespace Go.Proofs.YtjjphfnohgdpjaaDoor.K
open Go.RowKit Go.Proofs.YtjjphfnohgdpjaaDoorW.PrintWords Go.Proofs.YtjjphfnohgdpjaaDoorW.PrintLast Go.Proofs.YtjjphfnohgdpjaaDoorW.PrintMore
attribute [local go_sem] max2_int min2_int max_two min_two max_three min_three max_four min_four   -- for this text's walks alone
set_option linter.unusedVariables false
set_option linter.unusedSimpArgs false


/-- The bytes between the quotes: of the first 64 those that are no quote; blanks, until there are enough. -/
def quoteB (s : ByteArray) : List Int := ((bytesOf s).take 64).filter (fun b => b != 39)
def padB (t : List Int) (n : Nat) : List Int := t ++ List.replicate (n - t.length) 32
def textQ (s : ByteArray) (long : Int) : ByteArray := strOfNums (padB (quoteB s) (long % 66).toNat)
def quotesOk (long : Int) (t : ByteArray) (r1 r2 : List S40 × Int × Int) : Bool :=
  decide (0 ≤ long ∧ long ≤ 255 ∧ r2.2.2 = 2 ∧ r2.2.1 = 1 ∧ ((t.size > 64 ∧ r1.2.2 = 2 ∧ r1.2.1 = 1 ∧ r1.1.length = 0) ∨ (t.size ≤ 64 ∧ r1.2.2 = 0 ∧ r1.1.length = 2 ∧ (rd_T40 r1.1 1).f0 = 3 ∧ (rd_T40 r1.1 1).f1 = t ∧ (rd_T40 r1.1 1).f2 = 0 ∧ (rd_T40 r1.1 1).f3 = 1)))
/-! ### marshallinglaw06_LexQuotes: function 7 -/
def marshallinglaw06_LexQuotes.f (k : Nat) (a0 : ByteArray) (a1 : Int) : Option (Bool) := (marshallinglaw06_examples.f k).bind fun t180 => (if t180 = true then ((lex_All.f k (((⟨#[120, 39]⟩ : ByteArray) ++ textQ a0 a1) ++ (⟨#[39]⟩ : ByteArray))).bind fun r1 => (lex_All.f k ((⟨#[120, 39]⟩ : ByteArray) ++ textQ a0 a1)).bind fun r2 => (if quotesOk a1 (textQ a0 a1) r1 r2 = true then (some true) else (none))) else (some false))
theorem marshallinglaw06_LexQuotes.mono : ∀ a0 a1 k, LeO (marshallinglaw06_LexQuotes.f k a0 a1) (marshallinglaw06_LexQuotes.f (k + 1) a0 a1) := by
  intro a0 a1 k
  unfold marshallinglaw06_LexQuotes.f
  repeat' first
      | (with_reducible exact lex_All.mono _ _)
      | (with_reducible exact marshallinglaw06_examples.mono _)
      | (with_reducible exact LeO.refl _)
      | (with_reducible exact LeO.none _)
      | (with_reducible refine LeO.ite ?_ ?_)
      | (with_reducible refine LeO.bind ?_ (fun _ => ?_))
      | exact lex_All.mono _ _
      | exact marshallinglaw06_examples.mono _
      | exact LeO.none _
      | refine LeO.ite ?_ ?_
      | refine LeO.bind ?_ (fun _ => ?_)
set_option maxHeartbeats 8000000 in
set_option maxRecDepth 100000 in
theorem marshallinglaw06_LexQuotes.calls (k : Nat) (a0 : ByteArray) (a1 : Int) (r : Bool) (w : World) (hG : Glob w) (h : marshallinglaw06_LexQuotes.f k a0 a1 = some r) :
    Calls Tryd.prog 7 #[.string a0, .int .u8 a1] w fun e w' => e = .returned (.bool r) ∧ Below w.heap.size w w' := by
  have hu40 := Tryd.underlying40
  have HG := Aside0.mk hG
  clear hG
  have HB := Aside0.mk (Below.refl w.heap.size w)
  have H : ((marshallinglaw06_examples.f k).bind fun t180 => (if t180 = true then ((lex_All.f k (((⟨#[120, 39]⟩ : ByteArray) ++ textQ a0 a1) ++ (⟨#[39]⟩ : ByteArray))).bind fun r1 => (lex_All.f k ((⟨#[120, 39]⟩ : ByteArray) ++ textQ a0 a1)).bind fun r2 => (if quotesOk a1 (textQ a0 a1) r1 r2 = true then (some true) else (none))) else (some false))) = some r := h
  clear h
  replace H := Option.bind_eq_some_iff.mp H
  obtain ⟨t180, A30, H⟩ := H
  replace H : (if t180 = true then ((lex_All.f k (((⟨#[120, 39]⟩ : ByteArray) ++ textQ a0 a1) ++ (⟨#[39]⟩ : ByteArray))).bind fun r1 => (lex_All.f k ((⟨#[120, 39]⟩ : ByteArray) ++ textQ a0 a1)).bind fun r2 => (if quotesOk a1 (textQ a0 a1) r1 r2 = true then (some true) else (none))) else (some false)) = some r := H
  have A3 := Aside0.mk A30
  clear A30
  by_cases c4 : t180 = true
  · subst c4
    have H1 : ((lex_All.f k (((⟨#[120, 39]⟩ : ByteArray) ++ textQ a0 a1) ++ (⟨#[39]⟩ : ByteArray))).bind fun r1 => (lex_All.f k ((⟨#[120, 39]⟩ : ByteArray) ++ textQ a0 a1)).bind fun r2 => (if quotesOk a1 (textQ a0 a1) r1 r2 = true then (some true) else (none))) = some r := by rw [if_pos rfl] at H; exact H
    clear H
    have H := H1
    clear H1
    have H' := Aside0.mk H
    clear H
    have H := H'.out
    clear H'
    obtain ⟨⟨b1, p1, e1⟩, h1, H⟩ := Option.bind_eq_some_iff.mp H
    obtain ⟨⟨b2, p2, e2⟩, h2, H⟩ := Option.bind_eq_some_iff.mp H
    by_cases hok : quotesOk a1 (textQ a0 a1) (b1, p1, e1) (b2, p2, e2) = true
    · rw [if_pos hok] at H
      obtain rfl := Option.some.inj H
      clear H
      have HOK := Aside0.mk (of_decide_eq_true hok)
      have HA1 := Aside0.mk h1
      have HA2 := Aside0.mk h2
      clear hok h1 h2 HB
      go_enter Tryd.func7, Tryd.ntmps7
      go_wp2_with (go_at_call 9; (with_reducible refine (marshallinglaw06_examples.calls k true _ HG.out A3.out).mono ?_); rintro e w1 ⟨rfl, hb⟩; have HB := Aside0.mk hb; clear hb; have hcv := print_bytes (P := Tryd.prog) 9 22 5 Tryd.underlying9 Tryd.underlying22 Tryd.underlying5 a0 w1)
      have hBW : Below w.heap.size w (Lib.bytesWorld w1 5 a0) := bytes_below HB.out HB.out.size 5 a0
      obtain ⟨OB, hOB⟩ : ∃ o, (Lib.bytesWorld w1 5 a0).heap[w1.heap.size]? = some o := ⟨_, Lib.bytesWorld_at_new w1 5 a0⟩
      have hC : ∀ (W : World), W.heap[w1.heap.size]? = some OB → ∀ j : Nat, j < a0.size → W.cell? ⟨w1.heap.size, j, none⟩ = some (.int .u8 (rd (bytesOf a0) (j : Int))) := by
        intro W hW j hj
        have h1 := Lib.bytesWorld_cell w1 5 a0 j hj
        have h2 : W.cell? ⟨w1.heap.size, j, none⟩ = (Lib.bytesWorld w1 5 a0).cell? ⟨w1.heap.size, j, none⟩ := by unfold World.cell?; rw [hW, hOB]
        rw [h2, h1]
        have hl : j < a0.data.toList.length := by rw [Array.length_toList]; exact hj
        simp only [rd, bytesOf, List.getD_eq_getElem?_getD, List.getElem?_map, Int.toNat_natCast, List.getElem?_eq_getElem hl]
        rfl
      have HCC := Lib.hid hC
      have HOB := Aside0.mk hOB
      have HBW := Aside0.mk hBW
      clear hC hBW hOB hcv
      go_loopg [7, 8] (a0.size + 1) (fun gg s7 s8 wr => ∃ (i : Nat) (t : List Int), i ≤ a0.size ∧ i ≤ 64 ∧ a0.size + 1 - i ≤ gg ∧ s8 = .int .i64 i ∧ Aside0 (t = ((bytesOf a0).take i).filter (fun b => b != 39)) ∧ Aside0 (Kd.R (Kd.int .u8) 5 wr w.heap.size (fun k_ => k_ ≠ w1.heap.size) s7 t) ∧ Aside0 (Below w.heap.size w wr) ∧ Aside0 (wr.heap[w1.heap.size]? = some OB))
      case atStart => exact ⟨0, [], Nat.zero_le _, Nat.zero_le _, by omega, rfl, ⟨by simp⟩, ⟨Kd.R_nil _ _ _ _ _⟩, HBW, HOB⟩
      case round =>
        obtain ⟨i, t, hi, hi64, hg, rfl, HT, HO, HB2, HK⟩ := hrel
        obtain ⟨A7, c7, e7⟩ := Kd.R_slice HO.out
        subst e7
        by_cases hlt : i < a0.size
        · have hlt1 : decide ((i : Int) < (a0.size : Int)) = true := decide_eq_true (by omega)
          have hlt2 : decide (i < a0.size) = true := decide_eq_true hlt
          by_cases h64 : i < 64
          · have h641 : decide ((i : Int) < 64) = true := decide_eq_true (by omega)
            have h642 : decide (i < 64) = true := decide_eq_true h64
            have hcell := HCC.out wr HK.out i hlt
            have HF : Aside0 (((bytesOf a0).take (i + 1)).filter (fun b => b != 39) = ((bytesOf a0).take i).filter (fun b => b != 39) ++ [rd (bytesOf a0) (i : Int)].filter (fun b => b != 39)) := ⟨by
              have hl : i < (bytesOf a0).length := by rw [bytesOf_length]; exact hlt
              rw [List.take_succ_eq_append_getElem hl, List.filter_append]
              have : rd (bytesOf a0) (i : Int) = (bytesOf a0)[i] := by simp [rd, hl]
              rw [this]⟩
            have HL : Aside0 (t.length ≤ 64) := ⟨by rw [HT.out]; exact Nat.le_trans (List.length_filter_le _ _) (by rw [List.length_take]; omega)⟩
            generalize hb : rd (bytesOf a0) (i : Int) = b at hcell HF
            clear hb
            by_cases h39 : b = 39
            · have h391 : (b != 39) = false := by rw [h39]; rfl
              have h392 : (b == 39) = true := by rw [h39]; rfl
              go_wp2
              go_roundg (a0.size + 1 - (i + 1))
              case measure => omega
              case rel => exact ⟨i + 1, t, by omega, by omega, by omega, by go_num, ⟨by rw [HF.out, HT.out, List.filter_cons_of_neg (by rw [h391]; simp), List.filter_nil, List.append_nil]⟩, HO, HB2, HK⟩
            · have h391 : (b != 39) = true := bne_iff_ne.2 h39
              have h392 : (b == 39) = false := beq_eq_false_iff_ne.2 h39
              go_wp2_with ((with_reducible refine gate_builtin (b := .append) (xs := #[.tmp 36, .tmp 41]) rfl ?_); at_builtin; refine Kd.R_append (Kd.int .u8) (w0 := w) w.heap.size rfl (.tmp 36) (.tmp 41) 22 5 (.int .u8 0) 1 rfl Tryd.underlying22 info5 rfl (by decide) (by omega) (.slice A7 t.length c7) t b [.int .u8 b] (fun k_ => k_ ≠ w1.heap.size) (fun _ => False) rfl (by first | (go_simp; done) | (go_simp; rfl)) ?aP (fun _ hk => hk.elim) ?aF ?aO ?aB ?aS ?aL ?_; (case aP => exact rfl); (case aB => exact (by repeat (first | exact HB2.out | apply below_alloc))); (case aF => exact (fun k_ hk => Kd.freshB (g := w1.heap.size) (o := OB) (by (with_reducible repeat (first | refine blk_drewN ?_ _ | refine blk_drew ?_ | refine blk_alloc ?_ _)); exact HK.out) k_ hk)); (case aO => exact (by (with_reducible repeat (first | apply Kd.R_alloc | apply Kd.R_drewN | apply Kd.R_drew)); exact HO.out)); (case aS => exact (below_size (by repeat (first | exact HB2.out | apply below_alloc)))); (case aL => have := HL.out; omega); intro v9 w9 ho hb hg hat; have HK2 := Aside0.mk (blk_grown (g := w1.heap.size) (o := OB) (by (with_reducible repeat (first | refine blk_drewN ?_ _ | refine blk_drew ?_ | refine blk_alloc ?_ _)); exact HK.out) hg (Kd.R_away HO.out (fun _ hk => hk))); have HO2 := Aside0.mk ho; have HB3 := Aside0.mk hb; clear ho hb hg hat)
              go_roundg (a0.size + 1 - (i + 1))
              case measure => omega
              case rel => exact ⟨i + 1, t ++ [b], by omega, by omega, by omega, by go_num, ⟨by rw [HF.out, HT.out, List.filter_cons_of_pos (by rw [h391]), List.filter_nil]⟩, HO2, HB3, HK2⟩
          · have h641 : decide ((i : Int) < 64) = false := decide_eq_false (by omega)
            have h642 : decide (i < 64) = false := decide_eq_false h64
            have HQ : Aside0 (t = quoteB a0) := ⟨by rw [HT.out]; unfold quoteB; rw [show i = 64 by omega]⟩
            have HL : Aside0 (t.length ≤ 64) := ⟨by rw [HQ.out]; unfold quoteB; exact Nat.le_trans (List.length_filter_le _ _) (by rw [List.length_take]; omega)⟩
            have HO1 : Aside0 (Kd.R (Kd.int .u8) 5 wr w.heap.size (fun _ => True) (.slice A7 t.length c7) t) := ⟨Kd.R_mono HO.out (fun _ _ => trivial)⟩
            have hm0 := HOK.out.1
            have hm1 := HOK.out.2.1
            obtain ⟨N, hN⟩ : ∃ N : Nat, (a1 % 66) = (N : Int) := ⟨(a1 % 66).toNat, by omega⟩
            have hN66 : N < 66 := by omega
            have hm : Int.tmod a1 66 = (N : Int) := by rw [Int.tmod_eq_emod_of_nonneg hm0, hN]
            go_wp2
            go_loopg [7] (N + 1) (fun gg s7 wr2 => ∃ t2 : List Int, t2.length ≤ 66 ∧ N + 1 - t2.length ≤ gg ∧ Aside0 (padB t2 N = padB (quoteB a0) N) ∧ Aside0 (Kd.R (Kd.int .u8) 5 wr2 w.heap.size (fun _ => True) s7 t2) ∧ Aside0 (Below w.heap.size w wr2))
            case atStart => exact ⟨t, by have := HL.out; omega, by omega, ⟨by rw [HQ.out]⟩, HO1, HB2⟩
            case round =>
              obtain ⟨t2, ht2, hg2, HP, HO5, HB5⟩ := hrel
              obtain ⟨A8, c8, e8⟩ := Kd.R_slice HO5.out
              subst e8
              by_cases hlen : t2.length < N
              · have hl1 : decide ((t2.length : Int) < (N : Int)) = true := decide_eq_true (by omega)
                have hl2 : decide (t2.length < N) = true := decide_eq_true hlen
                go_wp2_with ((with_reducible refine gate_builtin (b := .append) (xs := #[.tmp 49, .tmp 50]) rfl ?_); at_builtin; refine Kd.R_append (Kd.int .u8) (w0 := w) w.heap.size rfl (.tmp 49) (.tmp 50) 22 5 (.int .u8 0) 1 rfl Tryd.underlying22 info5 rfl (by decide) (by omega) (.slice A8 t2.length c8) t2 32 [.int .u8 32] (fun _ => True) (fun _ => False) rfl (by first | (go_simp; done) | (go_simp; rfl)) ?aP (fun _ hk => hk.elim) ?aF ?aO ?aB ?aS ?aL ?_; (case aP => exact rfl); (case aB => exact (by repeat (first | exact HB5.out | apply below_alloc))); (case aF => exact (fun _ _ => trivial)); (case aO => exact (by (with_reducible repeat (first | apply Kd.R_alloc | apply Kd.R_drewN | apply Kd.R_drew)); exact HO5.out)); (case aS => exact (below_size (by repeat (first | exact HB5.out | apply below_alloc)))); (case aL => omega); intro v9 w9 ho hb hg hat; have HO6 := Aside0.mk ho; have HB6 := Aside0.mk hb; clear ho hb hg hat)
                go_roundg (N + 1 - (t2.length + 1))
                case measure => omega
                case rel => exact ⟨t2 ++ [32], by rw [List.length_append, List.length_singleton]; omega, by rw [List.length_append, List.length_singleton]; omega, ⟨by
                  rw [← HP.out]; unfold padB
                  rw [List.append_assoc, List.length_append, List.length_singleton, show N - t2.length = (N - (t2.length + 1)) + 1 by omega, List.replicate_succ]
                  rfl⟩, HO6, HB6⟩
              · have hl1 : decide ((t2.length : Int) < (N : Int)) = false := decide_eq_false (by omega)
                have hl2 : decide (t2.length < N) = false := decide_eq_false hlen
                have HX : strOfNums t2 = textQ a0 a1 := by
                  unfold textQ; rw [hN, Int.toNat_natCast, ← HP.out]; unfold padB
                  rw [show N - t2.length = 0 by omega, List.replicate_zero, List.append_nil]
                have hTs : (textQ a0 a1).size ≤ 66 := by rw [← HX, strOfNums_size]; exact ht2
                have hcv := own_string (P := Tryd.prog) Tryd.underlying22 Tryd.underlying5 Tryd.underlying9 (Kd.own_of_R HO5.out)
                rw [HX] at hcv
                have hz1 : (9223372036854775807 < 2 + (textQ a0 a1).size) = False := eq_false (by omega)
                have hz2 : (9223372036854775807 < 2 + (textQ a0 a1).size + 1) = False := eq_false (by omega)
                have he2 : e2 = 2 := HOK.out.2.2.1
                have hp2 : p2 = 1 := HOK.out.2.2.2.1
                subst he2
                subst hp2
                rcases HOK.out.2.2.2.2 with ⟨hs, he1, hp1, hb1⟩ | ⟨hs, he1, hb1, hF0, hF1, hF2, hF3⟩
                · replace he1 : e1 = 2 := he1
                  replace hp1 : p1 = 1 := hp1
                  replace hb1 : b1.length = 0 := hb1
                  subst he1
                  subst hp1
                  have hs1 : decide (((textQ a0 a1).size : Int) > 64) = true := decide_eq_true (by omega)
                  have hs2 : decide ((64 : Int) < ((textQ a0 a1).size : Int)) = true := decide_eq_true (by omega)
                  have hs3 : decide (64 < (textQ a0 a1).size) = true := decide_eq_true hs
                  have hl1 : ((b1.length : Int) == 0) = true := beq_iff_eq.mpr (by omega)
                  have hl2 : (b1.length == 0) = true := beq_iff_eq.mpr hb1
                  go_wp2_with (first | ((with_reducible refine gate_callee (f := 11) rfl ?_); refine goesL_ (some 58) rfl rfl Tryd.func11 (by kernel_rfl) rfl #[.string ((⟨#[120, 39]⟩ ++ textQ a0 a1) ++ ⟨#[39]⟩ : ByteArray)] rfl (by (try simp only [List.map_toArray, List.map_cons, List.map_nil]); first | done | rfl) ?_; (with_reducible refine (lex_All.calls k ((⟨#[120, 39]⟩ ++ textQ a0 a1) ++ ⟨#[39]⟩ : ByteArray) _ _ _ _ ?side1 HA1.out).mono ?_); (case side1 => exact Glob.below HG.out (by repeat (first | (with_reducible first | exact HB6.out | exact HB5.out | apply below_alloc | apply pw_below_drewN | apply below_drew1)))); rintro e w41 ⟨v41, rfl, ho41, hb⟩; refine ⟨_, rfl, ?_⟩; obtain ⟨Ab1, cb1, eb1⟩ := Kd.R_slice ho41; subst eb1; have HO41 := Aside0.mk (Kd.R_lower ho41 (below_size (by repeat (first | (with_reducible first | exact HB6.out | exact HB5.out | apply below_alloc | apply pw_below_drewN | apply below_drew1))))); have HB6 := Aside0.mk (below_step (by repeat (first | (with_reducible first | exact HB6.out | exact HB5.out | apply below_alloc | apply pw_below_drewN | apply below_drew1))) hb); clear hb ho41) | ((with_reducible refine gate_callee (f := 11) rfl ?_); refine goesL_ (some 65) rfl rfl Tryd.func11 (by kernel_rfl) rfl #[.string ((⟨#[120, 39]⟩ : ByteArray) ++ textQ a0 a1)] rfl (by (try simp only [List.map_toArray, List.map_cons, List.map_nil]); first | done | rfl) ?_; (with_reducible refine (lex_All.calls k ((⟨#[120, 39]⟩ : ByteArray) ++ textQ a0 a1) _ _ _ _ ?side1 HA2.out).mono ?_); (case side1 => exact Glob.below HG.out (by repeat (first | (with_reducible first | exact HB6.out | exact HB5.out | apply below_alloc | apply pw_below_drewN | apply below_drew1)))); rintro e w42 ⟨v42, rfl, ho42, hb⟩; refine ⟨_, rfl, ?_⟩; have HO42 := Aside0.mk (Kd.R_below (by (with_reducible repeat (first | apply Kd.R_alloc | apply Kd.R_drewN | apply Kd.R_drew)); exact HO41.out) hb); have HB6 := Aside0.mk (below_step (by repeat (first | (with_reducible first | exact HB6.out | exact HB5.out | apply below_alloc | apply pw_below_drewN | apply below_drew1))) hb); clear hb ho42))
                  go_ret
                  exact ⟨by first | rfl | simp [*], HB6.out⟩
                · replace he1 : e1 = 0 := he1
                  replace hb1 : b1.length = 2 := hb1
                  subst he1
                  have hs1 : decide (((textQ a0 a1).size : Int) > 64) = false := decide_eq_false (by omega)
                  have hs2 : decide ((64 : Int) < ((textQ a0 a1).size : Int)) = false := decide_eq_false (by omega)
                  have hs3 : decide (64 < (textQ a0 a1).size) = false := decide_eq_false (by omega)
                  have hl1 : ((b1.length : Int) == 2) = true := beq_iff_eq.mpr (by omega)
                  have hl2 : (b1.length == 2) = true := beq_iff_eq.mpr hb1
                  go_wp2_with (first | ((with_reducible refine gate_callee (f := 11) rfl ?_); refine goesL_ (some 58) rfl rfl Tryd.func11 (by kernel_rfl) rfl #[.string ((⟨#[120, 39]⟩ ++ textQ a0 a1) ++ ⟨#[39]⟩ : ByteArray)] rfl (by (try simp only [List.map_toArray, List.map_cons, List.map_nil]); first | done | rfl) ?_; (with_reducible refine (lex_All.calls k ((⟨#[120, 39]⟩ ++ textQ a0 a1) ++ ⟨#[39]⟩ : ByteArray) _ _ _ _ ?side1 HA1.out).mono ?_); (case side1 => exact Glob.below HG.out (by repeat (first | (with_reducible first | exact HB6.out | exact HB5.out | apply below_alloc | apply pw_below_drewN | apply below_drew1)))); rintro e w41 ⟨v41, rfl, ho41, hb⟩; refine ⟨_, rfl, ?_⟩; obtain ⟨Ab1, cb1, eb1⟩ := Kd.R_slice ho41; subst eb1; have HO41 := Aside0.mk (Kd.R_lower ho41 (below_size (by repeat (first | (with_reducible first | exact HB6.out | exact HB5.out | apply below_alloc | apply pw_below_drewN | apply below_drew1))))); have HB6 := Aside0.mk (below_step (by repeat (first | (with_reducible first | exact HB6.out | exact HB5.out | apply below_alloc | apply pw_below_drewN | apply below_drew1))) hb); clear hb ho41) | ((with_reducible refine gate_callee (f := 11) rfl ?_); refine goesL_ (some 65) rfl rfl Tryd.func11 (by kernel_rfl) rfl #[.string ((⟨#[120, 39]⟩ : ByteArray) ++ textQ a0 a1)] rfl (by (try simp only [List.map_toArray, List.map_cons, List.map_nil]); first | done | rfl) ?_; (with_reducible refine (lex_All.calls k ((⟨#[120, 39]⟩ : ByteArray) ++ textQ a0 a1) _ _ _ _ ?side1 HA2.out).mono ?_); (case side1 => exact Glob.below HG.out (by repeat (first | (with_reducible first | exact HB6.out | exact HB5.out | apply below_alloc | apply pw_below_drewN | apply below_drew1)))); rintro e w42 ⟨v42, rfl, ho42, hb⟩; refine ⟨_, rfl, ?_⟩; have HO42 := Aside0.mk (Kd.R_below (by (with_reducible repeat (first | apply Kd.R_alloc | apply Kd.R_drewN | apply Kd.R_drew)); exact HO41.out) hb); have HB6 := Aside0.mk (below_step (by repeat (first | (with_reducible first | exact HB6.out | exact HB5.out | apply below_alloc | apply pw_below_drewN | apply below_drew1))) hb); clear hb ho42; (have p248 : 0 ≤ (1 : Int) := (by omega)); (have q248 : 1 < (b1.length : Int) := (by omega)); obtain ⟨ad248, e248, hx248_0, hx248_1, hx248_2, hx248_3⟩ := at_T40 (Kd.R_reads' HO42.out).2.2 1 p248 q248; cases e248; (try simp only [show (1 : Int).toNat = 1 from rfl, Nat.reduceMul, Nat.reduceEqDiff, Go.Addr.add, ↓reduceIte] at hx248_0 hx248_1 hx248_2 hx248_3); rw [hF0] at hx248_0; rw [hF1] at hx248_1; rw [hF2] at hx248_2; rw [hF3] at hx248_3; have qi248 : (1 < b1.length) = True := eq_true (by omega); replace p248 := eq_true p248; replace q248 := eq_true q248))
                  go_ret
                  exact ⟨by first | rfl | simp [*], HB6.out⟩
        · have hlt1 : decide ((i : Int) < (a0.size : Int)) = false := decide_eq_false (by omega)
          have hlt2 : decide (i < a0.size) = false := decide_eq_false hlt
          have HQ : Aside0 (t = quoteB a0) := ⟨by
            rw [HT.out]; unfold quoteB
            rw [List.take_of_length_le (by rw [bytesOf_length]; omega), List.take_of_length_le (by rw [bytesOf_length]; omega)]⟩
          have HL : Aside0 (t.length ≤ 64) := ⟨by rw [HQ.out]; unfold quoteB; exact Nat.le_trans (List.length_filter_le _ _) (by rw [List.length_take]; omega)⟩
          have HO1 : Aside0 (Kd.R (Kd.int .u8) 5 wr w.heap.size (fun _ => True) (.slice A7 t.length c7) t) := ⟨Kd.R_mono HO.out (fun _ _ => trivial)⟩
          have hm0 := HOK.out.1
          have hm1 := HOK.out.2.1
          obtain ⟨N, hN⟩ : ∃ N : Nat, (a1 % 66) = (N : Int) := ⟨(a1 % 66).toNat, by omega⟩
          have hN66 : N < 66 := by omega
          have hm : Int.tmod a1 66 = (N : Int) := by rw [Int.tmod_eq_emod_of_nonneg hm0, hN]
          go_wp2
          go_loopg [7] (N + 1) (fun gg s7 wr2 => ∃ t2 : List Int, t2.length ≤ 66 ∧ N + 1 - t2.length ≤ gg ∧ Aside0 (padB t2 N = padB (quoteB a0) N) ∧ Aside0 (Kd.R (Kd.int .u8) 5 wr2 w.heap.size (fun _ => True) s7 t2) ∧ Aside0 (Below w.heap.size w wr2))
          case atStart => exact ⟨t, by have := HL.out; omega, by omega, ⟨by rw [HQ.out]⟩, HO1, HB2⟩
          case round =>
            obtain ⟨t2, ht2, hg2, HP, HO5, HB5⟩ := hrel
            obtain ⟨A8, c8, e8⟩ := Kd.R_slice HO5.out
            subst e8
            by_cases hlen : t2.length < N
            · have hl1 : decide ((t2.length : Int) < (N : Int)) = true := decide_eq_true (by omega)
              have hl2 : decide (t2.length < N) = true := decide_eq_true hlen
              go_wp2_with ((with_reducible refine gate_builtin (b := .append) (xs := #[.tmp 49, .tmp 50]) rfl ?_); at_builtin; refine Kd.R_append (Kd.int .u8) (w0 := w) w.heap.size rfl (.tmp 49) (.tmp 50) 22 5 (.int .u8 0) 1 rfl Tryd.underlying22 info5 rfl (by decide) (by omega) (.slice A8 t2.length c8) t2 32 [.int .u8 32] (fun _ => True) (fun _ => False) rfl (by first | (go_simp; done) | (go_simp; rfl)) ?aP (fun _ hk => hk.elim) ?aF ?aO ?aB ?aS ?aL ?_; (case aP => exact rfl); (case aB => exact (by repeat (first | exact HB5.out | apply below_alloc))); (case aF => exact (fun _ _ => trivial)); (case aO => exact (by (with_reducible repeat (first | apply Kd.R_alloc | apply Kd.R_drewN | apply Kd.R_drew)); exact HO5.out)); (case aS => exact (below_size (by repeat (first | exact HB5.out | apply below_alloc)))); (case aL => omega); intro v9 w9 ho hb hg hat; have HO6 := Aside0.mk ho; have HB6 := Aside0.mk hb; clear ho hb hg hat)
              go_roundg (N + 1 - (t2.length + 1))
              case measure => omega
              case rel => exact ⟨t2 ++ [32], by rw [List.length_append, List.length_singleton]; omega, by rw [List.length_append, List.length_singleton]; omega, ⟨by
                rw [← HP.out]; unfold padB
                rw [List.append_assoc, List.length_append, List.length_singleton, show N - t2.length = (N - (t2.length + 1)) + 1 by omega, List.replicate_succ]
                rfl⟩, HO6, HB6⟩
            · have hl1 : decide ((t2.length : Int) < (N : Int)) = false := decide_eq_false (by omega)
              have hl2 : decide (t2.length < N) = false := decide_eq_false hlen
              have HX : strOfNums t2 = textQ a0 a1 := by
                unfold textQ; rw [hN, Int.toNat_natCast, ← HP.out]; unfold padB
                rw [show N - t2.length = 0 by omega, List.replicate_zero, List.append_nil]
              have hTs : (textQ a0 a1).size ≤ 66 := by rw [← HX, strOfNums_size]; exact ht2
              have hcv := own_string (P := Tryd.prog) Tryd.underlying22 Tryd.underlying5 Tryd.underlying9 (Kd.own_of_R HO5.out)
              rw [HX] at hcv
              have hz1 : (9223372036854775807 < 2 + (textQ a0 a1).size) = False := eq_false (by omega)
              have hz2 : (9223372036854775807 < 2 + (textQ a0 a1).size + 1) = False := eq_false (by omega)
              have he2 : e2 = 2 := HOK.out.2.2.1
              have hp2 : p2 = 1 := HOK.out.2.2.2.1
              subst he2
              subst hp2
              rcases HOK.out.2.2.2.2 with ⟨hs, he1, hp1, hb1⟩ | ⟨hs, he1, hb1, hF0, hF1, hF2, hF3⟩
              · replace he1 : e1 = 2 := he1
                replace hp1 : p1 = 1 := hp1
                replace hb1 : b1.length = 0 := hb1
                subst he1
                subst hp1
                have hs1 : decide (((textQ a0 a1).size : Int) > 64) = true := decide_eq_true (by omega)
                have hs2 : decide ((64 : Int) < ((textQ a0 a1).size : Int)) = true := decide_eq_true (by omega)
                have hs3 : decide (64 < (textQ a0 a1).size) = true := decide_eq_true hs
                have hl1 : ((b1.length : Int) == 0) = true := beq_iff_eq.mpr (by omega)
                have hl2 : (b1.length == 0) = true := beq_iff_eq.mpr hb1
                go_wp2_with (first | ((with_reducible refine gate_callee (f := 11) rfl ?_); refine goesL_ (some 58) rfl rfl Tryd.func11 (by kernel_rfl) rfl #[.string ((⟨#[120, 39]⟩ ++ textQ a0 a1) ++ ⟨#[39]⟩ : ByteArray)] rfl (by (try simp only [List.map_toArray, List.map_cons, List.map_nil]); first | done | rfl) ?_; (with_reducible refine (lex_All.calls k ((⟨#[120, 39]⟩ ++ textQ a0 a1) ++ ⟨#[39]⟩ : ByteArray) _ _ _ _ ?side1 HA1.out).mono ?_); (case side1 => exact Glob.below HG.out (by repeat (first | (with_reducible first | exact HB6.out | exact HB5.out | apply below_alloc | apply pw_below_drewN | apply below_drew1)))); rintro e w41 ⟨v41, rfl, ho41, hb⟩; refine ⟨_, rfl, ?_⟩; obtain ⟨Ab1, cb1, eb1⟩ := Kd.R_slice ho41; subst eb1; have HO41 := Aside0.mk (Kd.R_lower ho41 (below_size (by repeat (first | (with_reducible first | exact HB6.out | exact HB5.out | apply below_alloc | apply pw_below_drewN | apply below_drew1))))); have HB6 := Aside0.mk (below_step (by repeat (first | (with_reducible first | exact HB6.out | exact HB5.out | apply below_alloc | apply pw_below_drewN | apply below_drew1))) hb); clear hb ho41) | ((with_reducible refine gate_callee (f := 11) rfl ?_); refine goesL_ (some 65) rfl rfl Tryd.func11 (by kernel_rfl) rfl #[.string ((⟨#[120, 39]⟩ : ByteArray) ++ textQ a0 a1)] rfl (by (try simp only [List.map_toArray, List.map_cons, List.map_nil]); first | done | rfl) ?_; (with_reducible refine (lex_All.calls k ((⟨#[120, 39]⟩ : ByteArray) ++ textQ a0 a1) _ _ _ _ ?side1 HA2.out).mono ?_); (case side1 => exact Glob.below HG.out (by repeat (first | (with_reducible first | exact HB6.out | exact HB5.out | apply below_alloc | apply pw_below_drewN | apply below_drew1)))); rintro e w42 ⟨v42, rfl, ho42, hb⟩; refine ⟨_, rfl, ?_⟩; have HO42 := Aside0.mk (Kd.R_below (by (with_reducible repeat (first | apply Kd.R_alloc | apply Kd.R_drewN | apply Kd.R_drew)); exact HO41.out) hb); have HB6 := Aside0.mk (below_step (by repeat (first | (with_reducible first | exact HB6.out | exact HB5.out | apply below_alloc | apply pw_below_drewN | apply below_drew1))) hb); clear hb ho42))
                go_ret
                exact ⟨by first | rfl | simp [*], HB6.out⟩
              · replace he1 : e1 = 0 := he1
                replace hb1 : b1.length = 2 := hb1
                subst he1
                have hs1 : decide (((textQ a0 a1).size : Int) > 64) = false := decide_eq_false (by omega)
                have hs2 : decide ((64 : Int) < ((textQ a0 a1).size : Int)) = false := decide_eq_false (by omega)
                have hs3 : decide (64 < (textQ a0 a1).size) = false := decide_eq_false (by omega)
                have hl1 : ((b1.length : Int) == 2) = true := beq_iff_eq.mpr (by omega)
                have hl2 : (b1.length == 2) = true := beq_iff_eq.mpr hb1
                go_wp2_with (first | ((with_reducible refine gate_callee (f := 11) rfl ?_); refine goesL_ (some 58) rfl rfl Tryd.func11 (by kernel_rfl) rfl #[.string ((⟨#[120, 39]⟩ ++ textQ a0 a1) ++ ⟨#[39]⟩ : ByteArray)] rfl (by (try simp only [List.map_toArray, List.map_cons, List.map_nil]); first | done | rfl) ?_; (with_reducible refine (lex_All.calls k ((⟨#[120, 39]⟩ ++ textQ a0 a1) ++ ⟨#[39]⟩ : ByteArray) _ _ _ _ ?side1 HA1.out).mono ?_); (case side1 => exact Glob.below HG.out (by repeat (first | (with_reducible first | exact HB6.out | exact HB5.out | apply below_alloc | apply pw_below_drewN | apply below_drew1)))); rintro e w41 ⟨v41, rfl, ho41, hb⟩; refine ⟨_, rfl, ?_⟩; obtain ⟨Ab1, cb1, eb1⟩ := Kd.R_slice ho41; subst eb1; have HO41 := Aside0.mk (Kd.R_lower ho41 (below_size (by repeat (first | (with_reducible first | exact HB6.out | exact HB5.out | apply below_alloc | apply pw_below_drewN | apply below_drew1))))); have HB6 := Aside0.mk (below_step (by repeat (first | (with_reducible first | exact HB6.out | exact HB5.out | apply below_alloc | apply pw_below_drewN | apply below_drew1))) hb); clear hb ho41) | ((with_reducible refine gate_callee (f := 11) rfl ?_); refine goesL_ (some 65) rfl rfl Tryd.func11 (by kernel_rfl) rfl #[.string ((⟨#[120, 39]⟩ : ByteArray) ++ textQ a0 a1)] rfl (by (try simp only [List.map_toArray, List.map_cons, List.map_nil]); first | done | rfl) ?_; (with_reducible refine (lex_All.calls k ((⟨#[120, 39]⟩ : ByteArray) ++ textQ a0 a1) _ _ _ _ ?side1 HA2.out).mono ?_); (case side1 => exact Glob.below HG.out (by repeat (first | (with_reducible first | exact HB6.out | exact HB5.out | apply below_alloc | apply pw_below_drewN | apply below_drew1)))); rintro e w42 ⟨v42, rfl, ho42, hb⟩; refine ⟨_, rfl, ?_⟩; have HO42 := Aside0.mk (Kd.R_below (by (with_reducible repeat (first | apply Kd.R_alloc | apply Kd.R_drewN | apply Kd.R_drew)); exact HO41.out) hb); have HB6 := Aside0.mk (below_step (by repeat (first | (with_reducible first | exact HB6.out | exact HB5.out | apply below_alloc | apply pw_below_drewN | apply below_drew1))) hb); clear hb ho42; (have p248 : 0 ≤ (1 : Int) := (by omega)); (have q248 : 1 < (b1.length : Int) := (by omega)); obtain ⟨ad248, e248, hx248_0, hx248_1, hx248_2, hx248_3⟩ := at_T40 (Kd.R_reads' HO42.out).2.2 1 p248 q248; cases e248; (try simp only [show (1 : Int).toNat = 1 from rfl, Nat.reduceMul, Nat.reduceEqDiff, Go.Addr.add, ↓reduceIte] at hx248_0 hx248_1 hx248_2 hx248_3); rw [hF0] at hx248_0; rw [hF1] at hx248_1; rw [hF2] at hx248_2; rw [hF3] at hx248_3; have qi248 : (1 < b1.length) = True := eq_true (by omega); replace p248 := eq_true p248; replace q248 := eq_true q248))
                go_ret
                exact ⟨by first | rfl | simp [*], HB6.out⟩
    · rw [if_neg hok] at H; exact absurd H (by simp)
  · replace c4 := Bool.eq_false_iff.mpr c4
    subst c4
    have H1 : (some false) = some r := by rw [if_neg (show ¬ (false = true) by decide)] at H; exact H
    clear H
    have H := H1
    clear H1
    obtain rfl := Option.some.inj H
    go_enter Tryd.func7, Tryd.ntmps7
    go_wp2_with (first | ((with_reducible refine gate_callee (f := 9) rfl ?_); refine goesL_ (some 16) rfl rfl Tryd.func9 (by kernel_rfl) rfl #[] rfl (by (try simp only [List.map_toArray, List.map_cons, List.map_nil]); first | done | rfl | (simp only [List.length_drop, List.length_take]; rfl)) ?_; (with_reducible refine (marshallinglaw06_examples.calls k  false _ ?side1 A3.out).mono ?_); (case side1 => exact Glob.below HG.out (by repeat (first | (with_reducible first | exact HB.out | apply below_alloc | apply pw_below_drewN | apply below_drew1) | exact HB.out))); rintro e w5 ⟨rfl, hb⟩; refine ⟨_, rfl, ?_⟩; have n0_ := Aside0.mk (below_step (by repeat (first | (with_reducible first | exact HB.out | apply below_alloc | apply pw_below_drewN | apply below_drew1) | exact HB.out)) hb); clear HB; have HB := n0_; clear n0_; (try clear hb); (try clear hb2); (try clear hk); (try clear hi)))
    go_ret
    exact ⟨by first | rfl | (simp [errW_none, errW_some] <;> rfl) | (simp [*, errW_none, errW_some] <;> rfl), by repeat (first | (with_reducible first | exact HB.out | apply below_alloc | apply pw_below_drewN | apply below_drew1) | exact HB.out)⟩

end Go.Proofs.YtjjphfnohgdpjaaDoor.K
