/- The statement 'LexErrors' as plain Lean: behind a text of pieces that is well a byte that begins nothing is an error where it stands; 2048 blanks are none, more bytes than 2048 are one. -/
import Derived.Test.YtjjphfnohgdpjaaDoorSLe
import Derived.Test.YtjjphfnohgdpjaaDoorSLw
import Derived.Test.YtjjphfnohgdpjaaDoorK9
namespace Go.Proofs.YtjjphfnohgdpjaaDoor.Pure
set_option linter.unusedVariables false
set_option linter.unusedSimpArgs false
open Go.RowKit Go.Proofs.YtjjphfnohgdpjaaDoor.K Go.Proofs.YtjjphfnohgdpjaaDoor.SN Go.Proofs.YtjjphfnohgdpjaaDoor.SL Go.Proofs.YtjjphfnohgdpjaaDoorW.PrintWords
theorem wf8 {x : Int} (h : (Lit.int .u8 x).wf = true) : 0 ≤ x ∧ x ≤ 255 := by simpa [Lit.wf, IntKind.min, IntKind.max, IntKind.signed, IntKind.bits] using h
theorem wf16 {x : Int} (h : (Lit.int .u16 x).wf = true) : 0 ≤ x ∧ x ≤ 65535 := by simpa [Lit.wf, IntKind.min, IntKind.max, IntKind.signed, IntKind.bits] using h
def badsN : B := [64, 34, 36, 38, 0, 127, 128, 255, 123, 125, 126, 94, 92, 63]
theorem best_none (s : B) : ∀ (l : List ByteArray) (b : ByteArray), (∀ x ∈ l, Lib.hasPrefix s x.data.toList = false) → bestSign s l b = b
  | [], _, _ => rfl
  | x :: r, b, h => by
    unfold bestSign
    rw [if_neg (by rw [h x List.mem_cons_self]; simp)]
    exact best_none s r b (fun y hy => h y (List.mem_cons_of_mem _ hy))
theorem bads_plain : ∀ b ∈ badsN, letters.contains b = false ∧ digitsN.contains b = false ∧ b ≠ 39 ∧ spaceN.contains b = false := by decide +kernel
theorem bads_signs : ∀ b ∈ badsN, ∀ x ∈ signsL, x.data.toList.head? = some b → b = 38 ∧ x.data.toList = [38, 38] := by decide +kernel
theorem prefix_head (c : UInt8) (s x : B) (h : Lib.hasPrefix (c :: s) x = true) (hx : x ≠ []) : x.head? = some c ∧ ∀ d, x = [c, d] → s.head? = some d := by
  cases x with
  | nil => exact absurd rfl hx
  | cons y r =>
    unfold Lib.hasPrefix at h
    rw [List.isPrefixOf_cons_cons, Bool.and_eq_true, beq_iff_eq] at h
    obtain ⟨rfl, h⟩ := h
    refine ⟨rfl, fun d hd => ?_⟩
    simp only [List.cons.injEq, true_and] at hd
    subst hd
    cases s with
    | nil => simp at h
    | cons z r => rw [List.isPrefixOf_cons_cons, Bool.and_eq_true, beq_iff_eq] at h; rw [List.head?_cons, h.1]
theorem bad_none (b : UInt8) (s : B) (hb : b ∈ badsN) (hs : b = 38 → s.head? ≠ some 38) : firstS (b :: s) = none := by
  obtain ⟨h1, h2, h3, h4⟩ := bads_plain b hb
  rw [first_sign b s h1 h2 h3]
  unfold signedS
  rw [best_none]
  · rfl
  · intro x hx
    refine Bool.eq_false_iff.2 fun hp => ?_
    obtain ⟨p1, p2⟩ := prefix_head b s _ hp (signs_heads x hx).1
    obtain ⟨q1, q2⟩ := bads_signs b hb x hx p1
    subst q1
    exact hs rfl (p2 38 q2)
/-- Behind a text that is well. -/
theorem all_stop (b : UInt8) (s t : B) (hb : b ∈ badsN) (hs : b = 38 → s.head? ≠ some 38) (ht : t = [] ∨ Ended t) (h0 : (allS t).2.2 = 0) (hl : (t ++ b :: s).length ≤ 2048) : allS (t ++ b :: s) = ([], (t.length : Int), 2) := by
  have hsp := (bads_plain b hb).2.2.2
  have hlt : t.length ≤ 2048 := by rw [List.length_append] at hl; omega
  unfold allS at h0 ⊢
  rw [if_neg (by omega)] at h0
  rw [if_neg (by omega), span_stop spaceN b s hsp]
  have hk := span_le spaceN t
  generalize spanN spaceN t = k at h0 hk ⊢
  have hd : (t ++ b :: s).drop k = t.drop k ++ b :: s := List.drop_append_of_le_length hk
  have h1 : (lexW (t.drop k) k).2.2 = 0 := by
    unfold outS at h0
    by_cases h : (lexW (t.drop k) k).2.2 = 0
    · exact h
    · rw [if_neg h] at h0; exact absurd h0 h
  have hE : t.drop k = [] ∨ Ended (t.drop k) := by
    by_cases hlt : k < t.length
    · rcases ht with rfl | ht
      · simp at hlt
      · exact .inr (ht.drop _ hlt)
    · exact .inl (List.drop_of_length_le (by omega))
  have h2 := lex_stop b s (bad_none b s hb hs) hsp _ (t.drop k) k (Nat.le_refl _) hE h1
  rw [hd]
  unfold outS
  rw [h2]
  simp only [List.length_drop]
  rw [if_neg (by decide), show k + (t.length - k) = t.length by omega]
theorem blank_all : allS (List.replicate 2048 32) = ([], 2048, 0) := by
  unfold allS
  rw [if_neg (by rw [List.length_replicate]; omega)]
  have hs : spanN spaceN (List.replicate 2048 32) = 2048 := by
    rw [span_all spaceN _ (by intro c hc; rw [(List.mem_replicate.1 hc).2]; decide), List.length_replicate]
  rw [hs, List.drop_of_length_le (by rw [List.length_replicate]; exact Nat.le_refl _), lexW_nil]
  rfl
theorem long_all (s : B) (h : s.length > 2048) : allS s = ([], 2048, 4) := by
  unfold allS; rw [if_pos h]
theorem errors_j4 (e : Int) (t u : ByteArray) (bt : Int) (l : List S40) (at_ f : Int) (h : e = 0 → ¬ (u.size : Int) > 2048 → f = 2 ∧ at_ = (t.size : Int) ∧ l = []) : Ev (fun k => marshallinglaw06_LexErrors.j4 k true t e u l at_ f false) true := by
  refine Ev.step (f := fun k => _) (fun k => by rw [marshallinglaw06_LexErrors.j4]) ?_
  refine Ev.neg (by decide) ?_
  by_cases h0 : e = 0
  · refine Ev.pos h0 ?_
    by_cases h1 : (u.size : Int) > 2048
    · exact Ev.pos h1 (Ev.now _)
    · obtain ⟨e1, e2, e3⟩ := h h0 h1
      refine Ev.neg h1 (Ev.pos rfl (Ev.pos e1 (Ev.pos e2 (Ev.ret ?_))))
      rw [e3]; rfl
  · exact Ev.neg h0 (Ev.now _)
theorem errors_l0 (x3 : Int) (hx3 : 0 ≤ x3 ∧ x3 ≤ 65535) (e : Int) (t u : ByteArray) (l : List S40) (at_ f : Int) (h : e = 0 → ¬ (u.size : Int) > 2048 → f = 2 ∧ at_ = (t.size : Int) ∧ l = []) : ∀ (d i : Nat) (b : ByteArray), i + d = 128 → b.data.toList = List.replicate (16 * i) 32 → Ev (fun k => marshallinglaw06_LexErrors.l0 k x3 true t e u l at_ f b (i : Int)) true := by
  intro d
  induction d with
  | zero =>
    intro i b hi hb
    have hi : i = 128 := by omega
    subst hi
    have ha := all_ev b
    rw [hb, show 16 * 128 = 2048 from rfl, blank_all] at ha
    refine Ev.step (f := fun k => _) (fun k => by rw [marshallinglaw06_LexErrors.l0]) ?_
    refine Ev.neg (by decide) (Ev.bind ha (Ev.pos rfl ?_))
    refine Ev.step (f := fun k => _) (fun k => by rw [marshallinglaw06_LexErrors.j3]) ?_
    have hm : Int.tmod x3 9 = x3 % 9 := Int.tmod_eq_emod_of_nonneg hx3.1
    have hw : wrap64 (2049 + wrap64 (Int.tmod x3 9)) = 2049 + x3 % 9 := by rw [hm]; unfold wrap64; omega
    rw [hw]
    have hz := all_ev (strOfNums (List.replicate (2049 + x3 % 9).toNat 0))
    rw [long_all _ (by rw [dsize, strOfNums_size, List.length_replicate]; omega)] at hz
    refine Ev.neg (by decide) (Ev.pos (by omega) (Ev.pos (by omega) (Ev.bind hz (Ev.pos rfl ?_))))
    exact errors_j4 e t u 0 l at_ f h
  | succ d ih =>
    intro i b hi hb
    have hsz : b.size = 16 * i := by rw [← dsize, hb, List.length_replicate]
    refine Ev.step (f := fun k => _) (fun k => by rw [marshallinglaw06_LexErrors.l0]) ?_
    refine Ev.pos (by omega) (Ev.pos (by omega) ?_)
    rw [show wrap64 ((i : Int) + 1) = ((i + 1 : Nat) : Int) by unfold wrap64; omega]
    refine ih (i + 1) _ (by omega) ?_
    rw [ByteArray.data_append, Array.toList_append, hb, show 16 * (i + 1) = 16 * i + 16 by omega, ← List.replicate_append_replicate]
    rfl
theorem errors_j1 (x3 : Int) (hx3 : 0 ≤ x3 ∧ x3 ≤ 65535) (e bad : Int) (hb : 0 ≤ bad ∧ bad ≤ 255) (hbb : UInt8.ofNat bad.toNat ∈ badsN) (s t : ByteArray) (hs : bad = 38 → s.data.toList.head? ≠ some 38) (ht : t.size ≤ 690) (hE : t.data.toList = [] ∨ Ended t.data.toList) (he : e = (allS t.data.toList).2.2) (hsz : s.size ≤ 140737488351232) :
    Ev (fun k => marshallinglaw06_LexErrors.j1 k s x3 true t e bad) true := by
  have hu := all_ev ((t ++ strOfNums [bad]) ++ s)
  have hd : ((t ++ strOfNums [bad]) ++ s).data.toList = t.data.toList ++ UInt8.ofNat bad.toNat :: s.data.toList := by
    rw [ByteArray.data_append, ByteArray.data_append, Array.toList_append, Array.toList_append, strOfNums_data]
    simp
  refine Ev.step (f := fun k => _) (fun k => by rw [marshallinglaw06_LexErrors.j1]) ?_
  refine Ev.got (a := [bad]) rfl ?_
  have h1 : (strOfNums [bad]).size = 1 := by rw [strOfNums_size]; rfl
  refine Ev.pos (by rw [h1]; omega) (Ev.pos (by rw [ByteArray.size_append, h1]; omega) (Ev.bind hu ?_))
  refine errors_l0 x3 hx3 e t _ _ _ _ ?_ 128 0 _ (by omega) rfl
  intro h0 hle
  have key := all_stop (UInt8.ofNat bad.toNat) s.data.toList t.data.toList hbb (by
    intro h38
    refine hs ?_
    have h38 : (UInt8.ofNat bad.toNat).toNat = 38 := by rw [h38]; rfl
    rw [UInt8.toNat_ofNat'] at h38
    omega) hE (by rw [← he]; exact h0) (by rw [← hd, dsize]; omega)
  rw [hd, key, dsize]
  exact ⟨rfl, rfl, rfl⟩
theorem LexErrors : ∀ (l0 : List Int) (a1 : Int) (a2 : ByteArray) (a3 : Int), l0.length ≤ maxLen → l0.length * 1 ≤ 140737488351232 → (∀ x ∈ l0, (Lit.int .u8 x).wf = true) → (Lit.int .u8 a1).wf = true → a2.size ≤ 140737488351232 → (Lit.int .u16 a3).wf = true → ∃ k, marshallinglaw06_LexErrors.f k l0 a1 a2 a3 = some true := by
  intro l0 a1 a2 a3 _ _ w0 w1 z2 w3
  have hx3 := wf16 w3
  obtain ⟨t, e1, e2, e3⟩ := words_ev l0 false (fun x hx => wf8 (w0 x hx))
  have e3 := e3 rfl
  have ha := all_ev t
  refine Ev.rounds ?_
  unfold marshallinglaw06_LexErrors.f
  have hm : Int.tmod a1 14 = a1 % 14 := Int.tmod_eq_emod_of_nonneg (wf8 w1).1
  rw [hm]
  refine Ev.bind examples_ev (Ev.pos rfl (Ev.bind e1 (Ev.bind ha (Ev.got (a := ([64, 34, 36, 38, 0, 127, 128, 255, 123, 125, 126, 94, 92, 63] : List Int)) rfl (Ev.pos (by omega) (Ev.pos (by show _ < (14 : Int); omega) ?_))))))
  have hq : 0 ≤ rd [64, 34, 36, 38, 0, 127, 128, 255, 123, 125, 126, 94, 92, 63] (a1 % 14) ∧ rd [64, 34, 36, 38, 0, 127, 128, 255, 123, 125, 126, 94, 92, 63] (a1 % 14) ≤ 255 ∧ UInt8.ofNat (rd [64, 34, 36, 38, 0, 127, 128, 255, 123, 125, 126, 94, 92, 63] (a1 % 14)).toNat ∈ badsN := by
    have h14 : 0 ≤ a1 % 14 ∧ a1 % 14 < 14 := by omega
    generalize a1 % 14 = q at h14 ⊢
    rcases (by omega : q = 0 ∨ q = 1 ∨ q = 2 ∨ q = 3 ∨ q = 4 ∨ q = 5 ∨ q = 6 ∨ q = 7 ∨ q = 8 ∨ q = 9 ∨ q = 10 ∨ q = 11 ∨ q = 12 ∨ q = 13) with rfl | rfl | rfl | rfl | rfl | rfl | rfl | rfl | rfl | rfl | rfl | rfl | rfl | rfl <;> decide +kernel
  generalize rd [64, 34, 36, 38, 0, 127, 128, 255, 123, 125, 126, 94, 92, 63] (a1 % 14) = bad at hq ⊢
  obtain ⟨q0, q1, q2⟩ := hq
  have j1 : ∀ s : ByteArray, s.size ≤ 140737488351232 → (bad = 38 → s.data.toList.head? ≠ some 38) → Ev (fun k => marshallinglaw06_LexErrors.j1 k s a3 true t (allS t.data.toList).2.2 bad) true := fun s hz hs =>
    errors_j1 a3 hx3 _ bad ⟨q0, q1⟩ q2 s t hs e2 e3 rfl hz
  have j0 : ∀ x : Bool, (x = false → bad = 38 → a2.data.toList.head? ≠ some 38) → Ev (fun k => marshallinglaw06_LexErrors.j0 k a2 a3 true t (allS t.data.toList).2.2 bad x) true := by
    intro x hx
    refine Ev.step (f := fun k => _) (fun k => by rw [marshallinglaw06_LexErrors.j0]) ?_
    by_cases h : x = true
    · exact Ev.pos h (j1 _ (by decide) (fun _ => by decide))
    · exact Ev.neg h (j1 _ z2 (hx (by simpa using h)))
  by_cases h38 : bad = 38
  · refine Ev.pos h38 ?_
    by_cases hz : (a2.size : Int) > 0
    · refine Ev.pos hz (Ev.pos hz (j0 _ ?_))
      intro hb _ hh
      have hlen : 0 < a2.data.toList.length := by rw [dsize]; omega
      have e0 : bt a2 0 = ((a2.data.toList[0]).toNat : Int) := bt_eq a2 0 hlen
      rw [List.head?_eq_getElem?, List.getElem?_eq_getElem hlen, Option.some.injEq] at hh
      rw [e0, hh] at hb
      exact absurd hb (by decide)
    · refine Ev.neg hz (j0 _ ?_)
      intro _ _ hh
      have : a2.data.toList = [] := List.length_eq_zero_iff.1 (by rw [dsize]; omega)
      rw [this] at hh
      cases hh
  · exact Ev.neg h38 (j0 _ (fun _ h => absurd h h38))
end Go.Proofs.YtjjphfnohgdpjaaDoor.Pure
