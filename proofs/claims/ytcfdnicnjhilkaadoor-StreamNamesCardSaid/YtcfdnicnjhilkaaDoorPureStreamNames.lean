/- The statement 'StreamNames' as plain Lean: a text of signs behind a q is a name; with one more than there may be, or behind a 5, it is none; with a byte turned it is one just if that byte may be there and no key comes of it. -/
import Derived.Test.YtcfdnicnjhilkaaDoorSN
import Derived.Test.YtcfdnicnjhilkaaDoorG12
namespace Go.Proofs.YtcfdnicnjhilkaaDoor.Pure
set_option linter.unusedVariables false
set_option linter.unusedSimpArgs false
open Go.RowKit Go.Proofs.YtcfdnicnjhilkaaDoor.G Go.Proofs.YtcfdnicnjhilkaaDoor.SN Go.Proofs.YtcfdnicnjhilkaaDoorW.PrintWords
theorem wf8 {x : Int} (h : (Lit.int .u8 x).wf = true) : 0 ≤ x ∧ x ≤ 255 := by simpa [Lit.wf, IntKind.min, IntKind.max, IntKind.signed, IntKind.bits] using h
theorem wrapn (i : Nat) (h : i < 9223372036854775807) : wrap64 ((i : Int) + 1) = ((i + 1 : Nat) : Int) := by unfold wrap64; omega
structure Good (s : ByteArray) (n : Nat) : Prop where
  size : s.size = n
  head : ∃ r, s.data.toList = 113 :: r ∧ ∀ c ∈ r, signsN.contains c = true
def signsT : ByteArray := ⟨#[97, 98, 99, 100, 101, 102, 103, 104, 105, 106, 107, 108, 109, 110, 111, 112, 113, 114, 115, 116, 117, 118, 119, 120, 121, 122, 65, 66, 67, 68, 69, 70, 71, 72, 73, 74, 75, 76, 77, 78, 79, 80, 81, 82, 83, 84, 85, 86, 87, 88, 89, 90, 95, 48, 49, 50, 51, 52, 53, 54, 55, 56, 57]⟩
theorem Good.start : Good ⟨#[113]⟩ 1 := ⟨rfl, [], rfl, by simp⟩
theorem cut_key : ∀ j < 63, (signsT.extract j (j + 1)).size = 1 ∧ ∀ c ∈ (signsT.extract j (j + 1)).data.toList, signsN.contains c = true := by decide +kernel
theorem Good.put {s : ByteArray} {n : Nat} (h : Good s n) (j : Nat) (hj : j < 63) : Good (s ++ signsT.extract j (j + 1)) (n + 1) := by
  obtain ⟨h1, r, h2, h3⟩ := h
  obtain ⟨k1, k2⟩ := cut_key j hj
  refine ⟨by rw [ByteArray.size_append, h1, k1], r ++ (signsT.extract j (j + 1)).data.toList, by rw [ByteArray.data_append, Array.toList_append, h2]; rfl, ?_⟩
  intro c hc
  rcases List.mem_append.1 hc with h | h
  · exact h3 c h
  · exact k2 c h
theorem keys_of (t : B) : keysN.contains t = keyN t := by
  unfold keysN keyN
  simp only [List.contains_cons, List.contains_nil, Bool.or_false]
  cases (t == ([66, 89] : List UInt8)) <;> cases (t == ([69, 77, 73, 84] : List UInt8)) <;> cases (t == ([116, 114, 117, 101] : List UInt8)) <;> cases (t == ([102, 97, 108, 115, 101] : List UInt8)) <;> cases (t == ([83, 84, 82, 73, 67, 84] : List UInt8)) <;> cases (t == ([87, 73, 84, 72, 73, 78] : List UInt8)) <;> rfl
theorem no_key (r : B) : keysN.contains (113 :: r) = false := by
  rw [Bool.eq_false_iff]
  intro h
  have h := List.contains_iff_mem.1 h
  simp [keysN] at h
theorem lets : ∀ n < 256, letters.contains (UInt8.ofNat n) = decide ((97 ≤ (n : Int) ∧ (n : Int) ≤ 122) ∨ (65 ≤ (n : Int) ∧ (n : Int) ≤ 90) ∨ (n : Int) = 95) := by decide +kernel
theorem sgns : ∀ n < 256, signsN.contains (UInt8.ofNat n) = decide ((97 ≤ (n : Int) ∧ (n : Int) ≤ 122) ∨ (65 ≤ (n : Int) ∧ (n : Int) ≤ 90) ∨ (n : Int) = 95 ∨ (48 ≤ (n : Int) ∧ (n : Int) ≤ 57)) := by decide +kernel
theorem all_set (p : UInt8 → Bool) (c : UInt8) : ∀ (r : B) (j : Nat), j < r.length → r.all p = true → (r.set j c).all p = p c
  | [], j, h, _ => by simp at h
  | x :: r, 0, _, h => by
    simp only [List.all_cons, Bool.and_eq_true] at h
    simp [h.2]
  | x :: r, j + 1, hj, h => by
    simp only [List.all_cons, Bool.and_eq_true] at h
    simp only [List.set_cons_succ, List.all_cons, h.1, Bool.true_and]
    exact all_set p c r j (by simpa using hj) h.2
theorem nm_good {s : ByteArray} {n : Nat} (h : Good s n) (hn : n ≤ 20) : isNm s.data.toList = true := by
  obtain ⟨h1, r, h2, h3⟩ := h
  have hl : s.data.toList.length = n := by rw [dsize, h1]
  rw [h2] at hl ⊢
  unfold isNm
  rw [no_key]
  simp only [Bool.not_false, Bool.true_and, Bool.and_eq_true, decide_eq_true_eq]
  refine ⟨by omega, ?_, by show letters.contains 113 = true; decide⟩
  rw [List.all_cons, Bool.and_eq_true]
  exact ⟨by decide, List.all_eq_true.2 h3⟩
theorem nm_long {s : ByteArray} (h : 20 < s.size) : isNm s.data.toList = false := by
  unfold isNm
  rw [decide_eq_false (by rw [dsize]; omega)]
  simp
theorem nm_five (s : ByteArray) : isNm ((⟨#[53]⟩ : ByteArray) ++ s).data.toList = false := by
  have : ((⟨#[53]⟩ : ByteArray) ++ s).data.toList = 53 :: s.data.toList := by rw [ByteArray.data_append, Array.toList_append]; rfl
  rw [this]
  unfold isNm
  have : headLetter (53 :: s.data.toList) = false := rfl
  rw [this]
  simp
theorem nm_set {s : ByteArray} {n : Nat} (h : Good s n) (hn : n ≤ 20) (j : Nat) (hj : j < s.size) (b : Int) (hb : 0 ≤ b ∧ b ≤ 255) : isNm (setB s j b).data.toList = (mayN b j && !keyN (setB s j b).data.toList) := by
  obtain ⟨h1, r, h2, h3⟩ := h
  have hl : s.data.toList.length = n := by rw [dsize, h1]
  have e : (setB s j b).data.toList = s.data.toList.set j (UInt8.ofNat b.toNat) := rfl
  have hlen : (setB s j b).data.toList.length ≤ 20 := by rw [e, List.length_set]; omega
  have hbn : ((b.toNat : Nat) : Int) = b := by omega
  have k1 := lets b.toNat (by omega)
  have k2 := sgns b.toNat (by omega)
  rw [hbn] at k1 k2
  unfold isNm
  rw [← keys_of, decide_eq_true hlen, Bool.true_and, Bool.and_comm]
  congr 1
  rw [e, h2]
  cases j with
  | zero =>
    rw [List.set_cons_zero, List.all_cons, List.all_eq_true.2 h3, Bool.and_true]
    show (signsN.contains (UInt8.ofNat b.toNat) && letters.contains (UInt8.ofNat b.toNat)) = _
    rw [k1, k2, ← Bool.decide_and]
    unfold mayN
    rw [decide_eq_decide]
    omega
  | succ j =>
    rw [List.set_cons_succ, List.all_cons, all_set _ _ r j (by rw [h2, List.length_cons] at hl; omega) (List.all_eq_true.2 h3)]
    have e1 : signsN.contains 113 = true := by decide
    have e2 : headLetter (113 :: r.set j (UInt8.ofNat b.toNat)) = true := by show letters.contains 113 = true; decide
    rw [e1, e2, k2, Bool.and_true, Bool.true_and]
    unfold mayN
    rw [decide_eq_decide]
    omega
theorem nm_ev (a : ByteArray) : Ev (fun k => stream_IsName.f k a) (isNm a.data.toList) := ⟨1, fun k hk => by obtain ⟨m, rfl⟩ : ∃ m, k = m + 1 := ⟨k - 1, by omega⟩; exact isName_f m a⟩
theorem tail_ev (s m : ByteArray) (n : Nat) (h : Good s n) (hn : n ≤ 20) (hm : 20 < m.size) (p b : Int) (hp : 0 ≤ p ∧ p ≤ 255) (hb : 0 ≤ b ∧ b ≤ 255) :
    Ev (fun k => (stream_IsName.f k s).bind fun q1 => (stream_IsName.f k m).bind fun q2 => (stream_IsName.f k (setB s (placeN s p) b)).bind fun q3 => (stream_IsName.f k ((⟨#[53]⟩ : ByteArray) ++ s)).bind fun q4 => (if namesOk s p b q1 q2 q3 q4 = true then (some true) else (none))) true := by
  have h0 : 0 < s.size := by
    obtain ⟨h1, r, h2, h3⟩ := h
    rw [← dsize, h2]; simp
  have hj : placeN s p < s.size := by
    have := Int.emod_lt_of_pos p (b := (s.size : Int)) (by omega)
    have := Int.emod_nonneg p (b := (s.size : Int)) (by omega)
    unfold placeN
    omega
  refine Ev.bind (nm_ev s) (Ev.bind (nm_ev m) (Ev.bind (nm_ev _) (Ev.bind (nm_ev _) (Ev.pos ?_ (Ev.now _)))))
  unfold namesOk
  rw [decide_eq_true_eq]
  refine ⟨h0, by have := h.size; omega, ?_, hp.1, hp.2, hb.1, hb.2, nm_good h hn, nm_long hm, nm_set h hn _ hj b hb, nm_five s⟩
  obtain ⟨h1, r, h2, h3⟩ := h
  rw [h2]; rfl
theorem long_ev (s : ByteArray) (n : Nat) (h : Good s n) (hn : n ≤ 20) (p b : Int) (hp : 0 ≤ p ∧ p ≤ 255) (hb : 0 ≤ b ∧ b ≤ 255) : ∀ (d : Nat) (m : ByteArray), m.size + d = 21 ∨ (d = 0 ∧ 21 ≤ m.size) → Ev (fun k => marshallinglaw03_StreamNames.l1 k p b s m) true := by
  intro d
  induction d with
  | zero =>
    intro m hm
    refine Ev.step (f := fun k => _) (fun k => by rw [marshallinglaw03_StreamNames.l1]) (Ev.neg (by omega) ?_)
    exact tail_ev s m n h hn (by omega) p b hp hb
  | succ d ih =>
    intro m hm
    refine Ev.step (f := fun k => _) (fun k => by rw [marshallinglaw03_StreamNames.l1]) (Ev.pos (by omega) (Ev.pos (by omega) ?_))
    exact ih _ (.inl (by rw [ByteArray.size_append]; show m.size + 1 + d = 21; omega))
theorem names_l0 (l : List Int) (hl : ∀ x ∈ l, 0 ≤ x ∧ x ≤ 255) (hm : l.length ≤ 9223372036854775806) (p b : Int) (hp : 0 ≤ p ∧ p ≤ 255) (hb : 0 ≤ b ∧ b ≤ 255) : ∀ (d i : Nat) (s : ByteArray), i + d = 19 → Good s (i + 1) → Ev (fun k => marshallinglaw03_StreamNames.l0 k l p b signsT s (i : Int)) true := by
  intro d
  have done : ∀ (i : Nat) (s : ByteArray), i ≤ 19 → Good s (i + 1) → Ev (fun k => marshallinglaw03_StreamNames.j1 k p b s) true := by
    intro i s hi hs
    refine Ev.step (f := fun k => _) (fun k => by rw [marshallinglaw03_StreamNames.j1]) ?_
    exact long_ev s (i + 1) hs (by omega) p b hp hb (21 - s.size) s (.inl (by have := hs.size; omega))
  induction d with
  | zero =>
    intro i s hi hs
    refine Ev.step (f := fun k => _) (fun k => by rw [marshallinglaw03_StreamNames.l0]) ?_
    by_cases h : (i : Int) < (l.length : Int)
    · exact Ev.pos h (Ev.neg (by omega) (done i s (by omega) hs))
    · exact Ev.neg h (done i s (by omega) hs)
  | succ d ih =>
    intro i s hi hs
    refine Ev.step (f := fun k => _) (fun k => by rw [marshallinglaw03_StreamNames.l0]) ?_
    by_cases h : (i : Int) < (l.length : Int)
    · have hlt : i < l.length := by omega
      have hx := hl _ (List.getElem_mem hlt)
      have er : rd l (i : Int) = l[i] := by simp [rd, hlt]
      have ew : wrap64 (rd l (i : Int)) = l[i] := by rw [er]; unfold wrap64; omega
      obtain ⟨j, hj⟩ : ∃ j : Nat, Int.tmod (wrap64 (rd l (i : Int))) 63 = (j : Int) := ⟨(l[i] % 63).toNat, by rw [ew, Int.tmod_eq_emod_of_nonneg hx.1]; omega⟩
      have hj63 : j < 63 := by rw [ew, Int.tmod_eq_emod_of_nonneg hx.1] at hj; omega
      have hg := hs.put j hj63
      have hsz := hg.size
      rw [ByteArray.size_append] at hsz
      rw [hj, wrapn j (by omega), wrapn i (by omega)]
      refine Ev.pos h (Ev.pos (by omega) (Ev.pos (by omega) (Ev.pos (by omega) (Ev.pos (by omega) (Ev.pos ?_ (Ev.pos ?_ ?_))))))
      · show ((j + 1 : Nat) : Int) ≤ 63; omega
      · rw [Int.toNat_natCast, Int.toNat_natCast]; omega
      · rw [Int.toNat_natCast, Int.toNat_natCast]
        exact ih (i + 1) _ (by omega) hg
    · exact Ev.neg h (done i s (by omega) hs)
theorem StreamNames : ∀ (l0 : List Int) (a1 : Int) (a2 : Int), l0.length ≤ maxLen → l0.length * 1 ≤ 140737488351232 → (∀ x ∈ l0, (Lit.int .u8 x).wf = true) → (Lit.int .u8 a1).wf = true → (Lit.int .u8 a2).wf = true → ∃ k, marshallinglaw03_StreamNames.f k l0 a1 a2 = some true := by
  intro l0 a1 a2 m0 z0 w0 w1 w2
  refine Ev.rounds ?_
  unfold marshallinglaw03_StreamNames.f
  refine Ev.got rfl (Ev.pos rfl ?_)
  exact names_l0 l0 (fun x hx => wf8 (w0 x hx)) (by omega) a1 a2 (wf8 w1) (wf8 w2) 19 0 _ rfl Good.start
end Go.Proofs.YtcfdnicnjhilkaaDoor.Pure
