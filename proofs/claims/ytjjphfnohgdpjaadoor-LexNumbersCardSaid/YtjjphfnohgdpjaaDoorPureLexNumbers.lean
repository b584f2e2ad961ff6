/- The statement 'LexNumbers' as plain Lean: digits are one number, the one that they are, if no 0 is ahead of them and it is below 2^63; else there is an error where they begin. -/
import Derived.Test.YtjjphfnohgdpjaaDoorSLe
import Derived.Test.YtjjphfnohgdpjaaDoorK10
namespace Go.Proofs.YtjjphfnohgdpjaaDoor.Pure
set_option linter.unusedVariables false
set_option linter.unusedSimpArgs false
open Go.RowKit Go.Proofs.YtjjphfnohgdpjaaDoor.K Go.Proofs.YtjjphfnohgdpjaaDoor.SN Go.Proofs.YtjjphfnohgdpjaaDoor.SL Go.Proofs.YtjjphfnohgdpjaaDoorW.PrintWords
theorem wf8 {x : Int} (h : (Lit.int .u8 x).wf = true) : 0 ≤ x ∧ x ≤ 255 := by simpa [Lit.wf, IntKind.min, IntKind.max, IntKind.signed, IntKind.bits] using h
def numV (acc : Nat) (l : B) : Nat := l.foldl (fun a c => a * 10 + (c.toNat - 48)) acc
theorem numV_nil (acc : Nat) : numV acc [] = acc := rfl
theorem numV_cons (acc : Nat) (c : UInt8) (r : B) : numV acc (c :: r) = numV (acc * 10 + (c.toNat - 48)) r := by unfold numV; rw [List.foldl_cons]
theorem val_ge : ∀ (l : B) (acc : Nat), acc ≤ numV acc l
  | [], acc => Nat.le_refl _
  | c :: r, acc => by
    have := val_ge r (acc * 10 + (c.toNat - 48))
    rw [numV_cons]; omega
theorem val_app (c : UInt8) : ∀ (l : B) (acc : Nat), numV acc (l ++ [c]) = numV acc l * 10 + (c.toNat - 48)
  | [], acc => by rw [List.nil_append, numV_cons, numV_nil, numV_nil]
  | x :: r, acc => by rw [List.cons_append, numV_cons, numV_cons, val_app c r]
theorem digit_range (c : UInt8) (h : digitsN.contains c = true) : 48 ≤ c.toNat ∧ c.toNat ≤ 57 := by
  rw [List.contains_iff_mem] at h
  simp only [digitsN, List.mem_cons, List.not_mem_nil, or_false] at h
  rcases h with rfl | rfl | rfl | rfl | rfl | rfl | rfl | rfl | rfl | rfl <;> decide
theorem uint_val : ∀ (l : B) (acc : Nat), (∀ c ∈ l, digitsN.contains c = true) → acc ≤ 18446744073709551615 → Lib.parseUintM 18446744073709551615 acc l = if numV acc l ≤ 18446744073709551615 then .ok (numV acc l) else .range
  | [], acc, _, h => by rw [Lib.parseUintM, numV_nil, if_pos h]
  | c :: r, acc, hd, h => by
    have hc := digit_range c (hd c List.mem_cons_self)
    have hg := val_ge r (acc * 10 + (c.toNat - 48))
    rw [Lib.parseUintM, numV_cons, if_pos hc]
    by_cases h1 : 1844674407370955162 ≤ acc
    · rw [if_pos h1, if_neg (by omega)]
    · rw [if_neg h1]
      by_cases h2 : 18446744073709551615 < acc * 10 + (c.toNat - 48)
      · rw [if_pos h2, if_neg (by omega)]
      · rw [if_neg h2]
        exact uint_val r _ (fun x hx => hd x (List.mem_cons_of_mem _ hx)) (by omega)
theorem parsed_digits (l : B) (h0 : l ≠ []) (hd : ∀ c ∈ l, digitsN.contains c = true) : if numV 0 l < 9223372036854775808 then parsed l = ((numV 0 l : Int), none) else (parsed l).2.isNone = false := by
  have hu := uint_val l 0 hd (by omega)
  cases l with
  | nil => exact absurd rfl h0
  | cons c r =>
    have hc := digit_range c (hd c List.mem_cons_self)
    have hp : Lib.parseIntB 64 (c :: r) = if numV 0 (c :: r) < 9223372036854775808 then .ok (numV 0 (c :: r) : Int) else .range := by
      unfold Lib.parseIntB
      simp only
      rw [if_neg (by omega)]
      unfold Lib.parseUintB
      rw [if_neg (by simp), show 2 ^ 64 - 1 = 18446744073709551615 from rfl, hu]
      by_cases h1 : numV 0 (c :: r) ≤ 18446744073709551615
      · rw [if_pos h1]
        simp only
        by_cases h2 : numV 0 (c :: r) < 9223372036854775808
        · rw [if_pos h2, if_neg (by rintro ⟨_, h3⟩; have : (2 : Nat) ^ (64 - 1) = 9223372036854775808 := rfl; omega), if_neg (by rintro ⟨h3, _⟩; omega), if_neg (by omega)]
        · rw [if_neg h2, if_pos ⟨by omega, by have : (2 : Nat) ^ (64 - 1) = 9223372036854775808 := rfl; omega⟩]
      · rw [if_neg h1, if_neg (by omega)]
    unfold parsed
    rw [hp]
    by_cases h2 : numV 0 (c :: r) < 9223372036854775808
    · rw [if_pos h2, if_pos h2]
    · rw [if_neg h2, if_neg h2]; rfl
theorem counted_digits (s e : B) (h0 : s ≠ []) (hd : ∀ c ∈ s, digitsN.contains c = true) (he : e = [] ∨ e = [120]) :
    firstS (s ++ e) = if numV 0 s < 9223372036854775808 ∧ ¬ (s.length > 1 ∧ s.head? = some 48) then some (2, s, (numV 0 s : Int), s.length) else none := by
  have hsp : spanN digitsN (s ++ e) = s.length := span_put _ _ _ hd (by rcases he with rfl | rfl; exact .inl rfl; exact .inr ⟨120, [], rfl, by decide⟩)
  have hp := parsed_digits s h0 hd
  cases s with
  | nil => exact absurd rfl h0
  | cons c r =>
    have hc := hd c List.mem_cons_self
    have hl : letters.contains c = false := by
      have := digit_range c hc
      rw [List.contains_iff_mem] at hc
      simp only [digitsN, List.mem_cons, List.not_mem_nil, or_false] at hc
      rcases hc with rfl | rfl | rfl | rfl | rfl | rfl | rfl | rfl | rfl | rfl <;> decide
    rw [List.cons_append]
    unfold firstS
    simp only
    rw [if_neg (by rw [hl]; simp), if_pos hc, ← List.cons_append]
    unfold countedS countedAt
    rw [hsp, take_len]
    by_cases h1 : numV 0 (c :: r) < 9223372036854775808
    · rw [if_pos h1] at hp
      rw [hp]
      dsimp only
      rw [if_pos (show (none : Option Int).isNone = true from rfl)]
      by_cases h2 : (c :: r).length > 1 ∧ (c :: r).head? = some 48
      · rw [if_pos (show (c :: r).length > 1 ∧ ((c :: r) ++ e).head? = some 48 from h2), if_neg (fun h => h.2 h2)]
      · rw [if_neg (show ¬ ((c :: r).length > 1 ∧ ((c :: r) ++ e).head? = some 48) from h2), if_pos ⟨h1, h2⟩]
    · rw [if_neg h1] at hp
      rw [hp, if_neg (by simp), if_neg (fun h => h1 h.1)]
theorem all_number (s e : B) (h0 : s ≠ []) (hd : ∀ c ∈ s, digitsN.contains c = true) (he : e = [] ∨ e = [120]) (hl : s.length ≤ 100) :
    allS (59 :: 32 :: (s ++ e)) = if numV 0 s < 9223372036854775808 ∧ ¬ (s.length > 1 ∧ s.head? = some 48) then ((⟨4, ⟨#[59]⟩, 0, 0⟩ : S40) :: ⟨2, ⟨s.toArray⟩, (numV 0 s : Int), 2⟩ :: (if e = [] then [] else [(⟨1, ⟨#[120]⟩, 0, (2 + s.length : Nat)⟩ : S40)]), ((59 :: 32 :: (s ++ e)).length : Int), 0) else ([], 2, 2) := by
  have hel : e.length ≤ 1 := by rcases he with rfl | rfl <;> decide
  have f1 : firstS (59 :: 32 :: (s ++ e)) = some (4, [59], 0, 1) := by
    rw [first_sign 59 _ (by decide) (by decide) (by decide)]
    unfold signedS
    rw [best_take]
    simp only [List.take_succ_cons, List.take_zero]
    decide +kernel
  obtain ⟨c, r, rfl⟩ : ∃ c r, s = c :: r := by cases s with | nil => exact absurd rfl h0 | cons c r => exact ⟨c, r, rfl⟩
  have hc := hd c List.mem_cons_self
  have hcs : spaceN.contains c = false := by
    rw [List.contains_iff_mem] at hc
    simp only [digitsN, List.mem_cons, List.not_mem_nil, or_false] at hc
    rcases hc with rfl | rfl | rfl | rfl | rfl | rfl | rfl | rfl | rfl | rfl <;> decide
  have hs1 : spanN spaceN (32 :: ((c :: r) ++ e)) = 1 := span_stop spaceN c (r ++ e) hcs [32]
  have f2 := counted_digits (c :: r) e h0 hd he
  have hE : spanN spaceN e = 0 := by rcases he with rfl | rfl <;> rfl
  have hs0 : spanN spaceN (59 :: 32 :: ((c :: r) ++ e)) = 0 := by
    unfold spanN; rw [List.takeWhile_cons_of_neg (by decide)]; rfl
  generalize hs : c :: r = s at *
  unfold allS
  rw [if_neg (by rw [List.length_cons, List.length_cons, List.length_append]; omega), hs0, List.drop_zero, lexW_tok 0 f1]
  simp only [List.drop_succ_cons, List.drop_zero]
  rw [hs1]
  simp only [List.drop_succ_cons, List.drop_zero, Nat.reduceAdd, Nat.zero_add]
  by_cases hg : numV 0 s < 9223372036854775808 ∧ ¬ (s.length > 1 ∧ s.head? = some 48)
  · rw [if_pos hg] at f2
    rw [if_pos hg, lexW_tok 2 f2]
    have hd1 : (s ++ e).drop s.length = e := List.drop_left' rfl
    rw [hd1, hE, Nat.add_zero, hd1]
    rcases he with rfl | rfl
    · rw [lexW_nil]
      unfold outS
      simp
      all_goals omega
    · have f3 : firstS [120] = some (1, [120], 0, 1) := by decide +kernel
      rw [lexW_tok (2 + s.length) f3]
      show outS [] (_ :: _ :: _ :: (lexW [] _).1, (lexW [] _).2) = _
      rw [lexW_nil]
      unfold outS
      simp [show spanN spaceN [] = 0 from rfl]
      all_goals omega
  · rw [if_neg hg] at f2
    rw [if_neg hg, lexW_bad 2 (by rw [← hs]; simp) f2]
    rfl
theorem u64w (x : Int) (h : 0 ≤ x) (h2 : x < 18446744073709551616) : IntKind.u64.wrap x = x := by
  unfold IntKind.wrap
  simp [IntKind.signed, IntKind.bits]
  omega
def numIn (k : Nat) (l : List Int) (a1 : Int) (a2 x7 : Bool) (x8 : ByteArray) (x9 : Int) (x10 : Bool) (i D : Int) : Option Bool :=
  if x9 > (IntKind.u64.wrap (Int.tdiv (IntKind.u64.wrap (9223372036854775807 - D)) 10)) then ((some (([(IntKind.u64.wrap (48 + D)) % 256] : List Int) : List Int)).bind fun y231 => (if x8.size + (strOfNums y231).size ≤ 9223372036854775807 then (marshallinglaw06_LexNumbers.l0 k l a1 a2 x7 (x8 ++ (strOfNums y231)) (IntKind.u64.wrap ((10 * 0) + D)) false (wrap64 (i + 1))) else (none))) else ((some (([(IntKind.u64.wrap (48 + D)) % 256] : List Int) : List Int)).bind fun y234 => (if x8.size + (strOfNums y234).size ≤ 9223372036854775807 then (marshallinglaw06_LexNumbers.l0 k l a1 a2 x7 (x8 ++ (strOfNums y234)) (IntKind.u64.wrap ((IntKind.u64.wrap (10 * x9)) + D)) x10 (wrap64 (i + 1))) else (none)))
theorem num_j1 (k : Nat) (l : List Int) (a1 : Int) (a2 x7 : Bool) (x8 : ByteArray) (x9 : Int) (x10 : Bool) (i : Int) (x31 : Bool) : marshallinglaw06_LexNumbers.j1 (k + 1) l a1 a2 x7 x8 x9 x10 i x31 =
    if x31 = true then (if 0 ≤ i then (if i < (l.length : Int) then (if i = 0 then numIn k l a1 a2 x7 x8 x9 x10 i (IntKind.u64.wrap (1 + (Int.tmod (IntKind.u64.wrap (Int.tmod (rd l i) 10)) 9))) else numIn k l a1 a2 x7 x8 x9 x10 i (IntKind.u64.wrap (Int.tmod (rd l i) 10))) else none) else none) else (marshallinglaw06_LexNumbers.l1 k a2 x7 x8 x9 x10 (wrap64 (Int.tmod a1 3)) 0) := by
  rw [marshallinglaw06_LexNumbers.j1]; rfl
/-- What stands after some digits: the text, the number, does it fit? -/
structure Num (L : B) (n : Int) (f : Bool) : Prop where
  dig : ∀ c ∈ L, digitsN.contains c = true
  head : L.head? ≠ some 48
  val : (f = true ∧ n = (numV 0 L : Int) ∧ numV 0 L < 9223372036854775808) ∨ (f = false ∧ 0 ≤ n ∧ n < 9223372036854775808 ∧ 9223372036854775808 ≤ numV 0 L)
theorem num_final (a2 : Bool) (s : ByteArray) (n : Int) (f : Bool) (z : Int) (h0 : s.data.toList ≠ []) (hl : s.size ≤ 100) (hd : ∀ c ∈ s.data.toList, digitsN.contains c = true)
    (hg : (f = true ∧ (z = 0 ∨ s.size = 1)) ↔ (numV 0 s.data.toList < 9223372036854775808 ∧ ¬ (s.data.toList.length > 1 ∧ s.data.toList.head? = some 48)))
    (hn : numV 0 s.data.toList < 9223372036854775808 → f = true → n = (numV 0 s.data.toList : Int)) : Ev (fun k => marshallinglaw06_LexNumbers.j3 k a2 true s n f z) true := by
  have j5 : ∀ (x : Bool) (t : ByteArray) (e : B), x = decide (numV 0 s.data.toList < 9223372036854775808 ∧ ¬ (s.data.toList.length > 1 ∧ s.data.toList.head? = some 48)) → (x = true → f = true) → t.data.toList = 59 :: 32 :: (s.data.toList ++ e) → e = (if a2 = true then [120] else []) →
      Ev (fun k => marshallinglaw06_LexNumbers.j5 k a2 true s n x t) true := by
    intro x t e hx hf ht he
    have ha := all_ev t
    rw [ht, all_number s.data.toList e h0 hd (by rw [he]; split <;> simp) (by rw [dsize]; exact hl)] at ha
    refine Ev.step (f := fun k => _) (fun k => by rw [marshallinglaw06_LexNumbers.j5]) ?_
    refine Ev.bind ha ?_
    by_cases hg : numV 0 s.data.toList < 9223372036854775808 ∧ ¬ (s.data.toList.length > 1 ∧ s.data.toList.head? = some 48)
    · rw [decide_eq_true hg] at hx
      rw [if_pos hg]
      refine Ev.pos hx ?_
      have hn := hn hg.1 (hf hx)
      have hw : wrap64 n = n := by unfold wrap64; omega
      by_cases h2 : a2 = true
      · rw [if_pos h2] at he
        subst he
        refine Ev.pos h2 (Ev.pos rfl (Ev.pos rfl (Ev.pos rfl (Ev.pos (by simp only [List.length_cons]; omega) (Ev.ret ?_)))))
        rw [hw, hn]
        simp [rd_T40, tl]
      · rw [if_neg h2] at he
        subst he
        refine Ev.neg h2 (Ev.pos rfl (Ev.pos rfl (Ev.pos rfl (Ev.pos (by simp only [List.length_cons]; omega) (Ev.ret ?_)))))
        rw [hw, hn]
        simp [rd_T40, tl]
    · rw [decide_eq_false hg] at hx
      rw [if_neg hg]
      exact Ev.neg (by rw [hx]; simp) (Ev.pos rfl (Ev.pos rfl (Ev.pos rfl (Ev.now _))))
  have j4 : ∀ x : Bool, x = decide (numV 0 s.data.toList < 9223372036854775808 ∧ ¬ (s.data.toList.length > 1 ∧ s.data.toList.head? = some 48)) → (x = true → f = true) → Ev (fun k => marshallinglaw06_LexNumbers.j4 k a2 true s n x) true := by
    intro x hx hf
    have e1 : ((⟨#[59, 32]⟩ : ByteArray) ++ s).data.toList = 59 :: 32 :: s.data.toList := by rw [ByteArray.data_append, Array.toList_append]; rfl
    refine Ev.step (f := fun k => _) (fun k => by rw [marshallinglaw06_LexNumbers.j4]) ?_
    refine Ev.pos (by omega) ?_
    by_cases h2 : a2 = true
    · refine Ev.pos h2 (Ev.pos (by rw [ByteArray.size_append]; show 2 + _ + 1 ≤ _; omega) (j5 x _ [120] hx hf ?_ (by rw [if_pos h2])))
      rw [ByteArray.data_append, Array.toList_append, e1]; rfl
    · refine Ev.neg h2 (j5 x _ [] hx hf ?_ (by rw [if_neg h2]))
      rw [e1, List.append_nil]
  refine Ev.step (f := fun k => _) (fun k => by rw [marshallinglaw06_LexNumbers.j3]) ?_
  by_cases hf : f = true
  · refine Ev.pos hf ?_
    by_cases hz : z = 0
    · exact Ev.pos hz (j4 true (decide_eq_true (hg.1 ⟨hf, .inl hz⟩)).symm (fun _ => hf))
    · refine Ev.neg hz (j4 _ ?_ (fun _ => hf))
      by_cases h1 : s.size = 1
      · rw [decide_eq_true (hg.1 ⟨hf, .inr h1⟩), h1]; rfl
      · rw [decide_eq_false (fun h => by rcases (hg.2 h).2 with h | h; exact hz h; exact h1 h)]
        simp
        omega
  · exact Ev.neg hf (j4 false (decide_eq_false (fun h => hf (hg.2 h).1)).symm (fun h => by cases h))
theorem val_zero (L : B) : numV 0 (48 :: L) = numV 0 L := by rw [numV_cons]; rfl
theorem num_l1 (a2 : Bool) (z : Nat) (hz : z ≤ 2) (L : B) (n : Int) (f : Bool) (hN : Num L n f) (hL : L.length ≤ 22) : ∀ (d i : Nat) (s : ByteArray), i + d = z → s.data.toList = List.replicate i 48 ++ L → Ev (fun k => marshallinglaw06_LexNumbers.l1 k a2 true s n f (z : Int) (i : Int)) true := by
  intro d
  induction d with
  | zero =>
    intro i s hi hs
    have hi : i = z := by omega
    subst hi
    obtain ⟨hdig, hhead, hval⟩ := hN
    have hlen : s.size = i + L.length := by rw [← dsize, hs, List.length_append, List.length_replicate]
    refine Ev.step (f := fun k => _) (fun k => by rw [marshallinglaw06_LexNumbers.l1]) ?_
    refine Ev.neg (by omega) ?_
    by_cases hnil : s.toList = []
    · refine Ev.pos hnil ?_
      rw [tl, hs] at hnil
      have hl2 : L = [] := (List.append_eq_nil_iff.1 hnil).2
      subst hl2
      rcases hval with ⟨rfl, rfl, _⟩ | ⟨_, _, _, h⟩
      · exact num_final a2 _ _ _ _ (by decide) (by decide) (by decide) (by decide) (fun _ _ => rfl)
      · exact absurd h (by decide)
    · refine Ev.neg hnil ?_
      rw [tl] at hnil
      have hv : numV 0 s.data.toList = numV 0 L := by
        rw [hs]
        rcases (by omega : i = 0 ∨ i = 1 ∨ i = 2) with rfl | rfl | rfl
        · rfl
        · exact val_zero L
        · exact (val_zero (48 :: L)).trans (val_zero L)
      refine num_final a2 s n f _ hnil (by omega) ?_ ?_ ?_
      · intro c hc
        rw [hs] at hc
        rcases List.mem_append.1 hc with hc | hc
        · rw [(List.mem_replicate.1 hc).2]; decide
        · exact hdig c hc
      · rw [hv, dsize, hlen, hs]
        have hf : f = true ↔ numV 0 L < 9223372036854775808 := by
          rcases hval with ⟨h1, _, h2⟩ | ⟨h1, _, _, h2⟩
          · exact ⟨fun _ => h2, fun _ => h1⟩
          · rw [h1]; exact ⟨fun h => (by cases h), fun h => (by omega)⟩
        rw [hf]
        refine and_congr_right fun _ => ?_
        rcases (by omega : i = 0 ∨ 1 ≤ i) with rfl | h1
        · simp only [List.replicate_zero, List.nil_append]
          exact ⟨fun _ h => hhead h.2, fun _ => .inl rfl⟩
        · have hh : (List.replicate i 48 ++ L).head? = some 48 := by
            obtain ⟨j, rfl⟩ : ∃ j, i = j + 1 := ⟨i - 1, by omega⟩
            rfl
          rw [hh]
          refine ⟨fun h2 h3 => ?_, fun h => .inr ?_⟩
          · have h4 := h3.1
            rcases h2 with h2 | h2
            · omega
            · omega
          · have : ¬ (i + L.length > 1) := fun h2 => h ⟨h2, rfl⟩
            omega
      · intro h1 h2
        rw [hv]
        rcases hval with ⟨_, h3, _⟩ | ⟨h3, _⟩
        · exact h3
        · rw [h2] at h3; cases h3
  | succ d ih =>
    intro i s hi hs
    have hlen : s.size = i + L.length := by rw [← dsize, hs, List.length_append, List.length_replicate]
    refine Ev.step (f := fun k => _) (fun k => by rw [marshallinglaw06_LexNumbers.l1]) ?_
    refine Ev.pos (by omega) (Ev.pos (by omega) ?_)
    rw [show wrap64 ((i : Int) + 1) = ((i + 1 : Nat) : Int) by unfold wrap64; omega]
    refine ih (i + 1) _ (by omega) ?_
    rw [ByteArray.data_append, Array.toList_append, hs]
    rfl
theorem digit_byte : ∀ D < 10, digitsN.contains (UInt8.ofNat (48 + D)) = true ∧ (UInt8.ofNat (48 + D)).toNat - 48 = D := by decide
theorem num_step {L : B} {n : Int} {f : Bool} (hN : Num L n f) (D : Nat) (hD : D < 10) (h0 : L = [] → 1 ≤ D) :
    Num (L ++ [UInt8.ofNat (48 + D)]) (if n > (9223372036854775807 - (D : Int)) / 10 then (D : Int) else 10 * n + D) (if n > (9223372036854775807 - (D : Int)) / 10 then false else f) := by
  obtain ⟨hdig, hhead, hval⟩ := hN
  obtain ⟨b1, b2⟩ := digit_byte D hD
  have hv := val_app (UInt8.ofNat (48 + D)) L 0
  rw [b2] at hv
  refine ⟨fun c hc => ?_, ?_, ?_⟩
  · rcases List.mem_append.1 hc with hc | hc
    · exact hdig c hc
    · rw [List.mem_singleton.1 hc]; exact b1
  · cases L with
    | nil =>
      have h1 := h0 rfl
      intro h
      simp only [List.nil_append, List.head?_cons, Option.some.injEq] at h
      have := congrArg UInt8.toNat h
      have e : (48 : UInt8).toNat = 48 := rfl
      rw [e] at this
      omega
    | cons c r => simpa using hhead
  · rw [hv]
    generalize numV 0 L = v at hval ⊢
    rcases hval with ⟨h1, h2, h3⟩ | ⟨h1, h2, h3, h4⟩
    · by_cases hc : n > (9223372036854775807 - (D : Int)) / 10
      · right
        rw [if_pos hc, if_pos hc]
        exact ⟨rfl, by omega, by omega, by omega⟩
      · left
        rw [if_neg hc, if_neg hc]
        exact ⟨h1, by omega, by omega⟩
    · right
      by_cases hc : n > (9223372036854775807 - (D : Int)) / 10
      · rw [if_pos hc, if_pos hc]
        exact ⟨rfl, by omega, by omega, by omega⟩
      · rw [if_neg hc, if_neg hc]
        exact ⟨h1, by omega, by omega, by omega⟩
theorem num_l0 (l : List Int) (a1 : Int) (a2 : Bool) (ha : 0 ≤ a1 ∧ a1 ≤ 255) (hl : ∀ x ∈ l, 0 ≤ x ∧ x ≤ 255) : ∀ (d i : Nat) (s : ByteArray) (n : Int) (f : Bool), i + d = min l.length 22 → s.size = i → Num s.data.toList n f → Ev (fun k => marshallinglaw06_LexNumbers.l0 k l a1 a2 true s n f (i : Int)) true := by
  intro d
  induction d with
  | zero =>
    intro i s n f hi hs hN
    have m2 := Nat.min_le_right l.length 22
    have hz : wrap64 (Int.tmod a1 3) = ((a1 % 3).toNat : Int) := by
      rw [Int.tmod_eq_emod_of_nonneg ha.1]; unfold wrap64; omega
    have fin := num_l1 a2 (a1 % 3).toNat (by omega) s.data.toList n f hN (by rw [dsize]; omega) (a1 % 3).toNat 0 s (Nat.zero_add _) rfl
    have e : ∀ x : Bool, x = false → Ev (fun k => marshallinglaw06_LexNumbers.j1 k l a1 a2 true s n f (i : Int) x) true := by
      intro x hx
      refine Ev.step (f := fun k => _) (fun k => by rw [num_j1]) ?_
      refine Ev.neg (by rw [hx]; simp) ?_
      rw [hz]
      exact fin
    refine Ev.step (f := fun k => _) (fun k => by rw [marshallinglaw06_LexNumbers.l0]) ?_
    by_cases h : (i : Int) < (l.length : Int)
    · exact Ev.pos h (e _ (decide_eq_false (by omega)))
    · exact Ev.neg h (e _ rfl)
  | succ d ih =>
    intro i s n f hi hs hN
    have m1 := Nat.min_le_left l.length 22
    have m2 := Nat.min_le_right l.length 22
    have hlt : i < l.length := by omega
    have hx := hl _ (List.getElem_mem hlt)
    have er : rd l (i : Int) = l[i] := by simp [rd, hlt]
    have step : ∀ D : Nat, D < 10 → (s.data.toList = [] → 1 ≤ D) → Ev (fun k => numIn k l a1 a2 true s n f (i : Int) (D : Int)) true := by
      intro D hD h0
      have hb : 0 ≤ n ∧ n < 9223372036854775808 := by rcases hN.val with ⟨_, h2, h3⟩ | ⟨_, h2, h3, _⟩ <;> omega
      have hst := num_step hN D hD h0
      have w1 : IntKind.u64.wrap (9223372036854775807 - (D : Int)) = 9223372036854775807 - (D : Int) := u64w _ (by omega) (by omega)
      have w2 : Int.tdiv (9223372036854775807 - (D : Int)) 10 = (9223372036854775807 - (D : Int)) / 10 := Int.tdiv_eq_ediv_of_nonneg (by omega)
      have w3 : IntKind.u64.wrap ((9223372036854775807 - (D : Int)) / 10) = (9223372036854775807 - (D : Int)) / 10 := u64w _ (by omega) (by omega)
      have w4 : IntKind.u64.wrap (48 + (D : Int)) % 256 = 48 + (D : Int) := by rw [u64w _ (by omega) (by omega)]; omega
      have w5 : IntKind.u64.wrap ((10 * 0) + (D : Int)) = (D : Int) := by rw [u64w _ (by omega) (by omega)]; omega
      have w6 : wrap64 ((i : Int) + 1) = ((i + 1 : Nat) : Int) := by unfold wrap64; omega
      unfold numIn
      rw [w1, w2, w3, w4, w5, w6]
      clear w1 w2 w3 w4 w5 w6
      have hsz : (strOfNums [48 + (D : Int)]).size = 1 := by rw [strOfNums_size]; rfl
      have hd : (s ++ strOfNums [48 + (D : Int)]).data.toList = s.data.toList ++ [UInt8.ofNat (48 + D)] := by
        rw [ByteArray.data_append, Array.toList_append, strOfNums_data]
        show _ ++ [UInt8.ofNat (48 + (D : Int)).toNat] = _
        rw [show (48 + (D : Int)).toNat = 48 + D by omega]
      by_cases hc : n > (9223372036854775807 - (D : Int)) / 10
      · rw [if_pos hc, if_pos hc] at hst
        refine Ev.pos hc (Ev.got rfl (Ev.pos (by rw [hsz]; omega) ?_))
        refine ih (i + 1) _ _ _ (by omega) (by rw [ByteArray.size_append, hsz]; omega) ?_
        rw [hd]
        exact hst
      · rw [if_neg hc, if_neg hc] at hst
        refine Ev.neg hc (Ev.got rfl (Ev.pos (by rw [hsz]; omega) ?_))
        have w7 : IntKind.u64.wrap (IntKind.u64.wrap (10 * n) + (D : Int)) = 10 * n + D := by
          rw [u64w (10 * n) (by omega) (by omega), u64w _ (by omega) (by omega)]
        rw [w7]
        refine ih (i + 1) _ _ _ (by omega) (by rw [ByteArray.size_append, hsz]; omega) ?_
        rw [hd]
        exact hst
    have hm : Int.tmod (rd l (i : Int)) 10 = l[i] % 10 := by rw [er, Int.tmod_eq_emod_of_nonneg hx.1]
    have hu : IntKind.u64.wrap (l[i] % 10) = l[i] % 10 := u64w _ (by omega) (by omega)
    refine Ev.step (f := fun k => _) (fun k => by rw [marshallinglaw06_LexNumbers.l0]) ?_
    refine Ev.pos (by omega) ?_
    refine Ev.step (f := fun k => _) (fun k => by rw [num_j1]) ?_
    rw [hm, hu]
    refine Ev.pos (decide_eq_true (by omega)) (Ev.pos (by omega) (Ev.pos (by omega) ?_))
    by_cases hi0 : (i : Int) = 0
    · have hu2 : IntKind.u64.wrap (1 + Int.tmod (l[i] % 10) 9) = (((1 + l[i] % 10 % 9).toNat : Nat) : Int) := by
        rw [Int.tmod_eq_emod_of_nonneg (by omega), u64w _ (by omega) (by omega)]; omega
      refine Ev.pos hi0 ?_
      rw [hu2]
      exact step _ (by omega) (fun _ => by omega)
    · have hu3 : l[i] % 10 = (((l[i] % 10).toNat : Nat) : Int) := by omega
      refine Ev.neg hi0 ?_
      rw [hu3]
      exact step _ (by omega) (fun h => by have := congrArg List.length h; rw [dsize, hs] at this; simp at this; omega)
theorem LexNumbers : ∀ (l0 : List Int) (a1 : Int) (a2 : Bool), l0.length ≤ maxLen → l0.length * 1 ≤ 140737488351232 → (∀ x ∈ l0, (Lit.int .u8 x).wf = true) → (Lit.int .u8 a1).wf = true → ∃ k, marshallinglaw06_LexNumbers.f k l0 a1 a2 = some true := by
  intro l0 a1 a2 _ _ w0 w1
  refine Ev.rounds ?_
  unfold marshallinglaw06_LexNumbers.f
  refine Ev.bind examples_ev (Ev.pos rfl ?_)
  exact num_l0 l0 a1 a2 (wf8 w1) (fun x hx => wf8 (w0 x hx)) _ 0 _ 0 true (Nat.zero_add _) rfl ⟨by decide, by decide, .inl ⟨rfl, rfl, by decide⟩⟩
end Go.Proofs.YtjjphfnohgdpjaaDoor.Pure
