/- Layer 6 in plain Lean: what the document's own lexer computes is what the program's does. -/
import Derived.Test.YtjjphfnohgdpjaaDoorSLe
import Derived.Test.YtjjphfnohgdpjaaDoorSLw
import Derived.Test.YtjjphfnohgdpjaaDoorK19
namespace Go.Proofs.YtjjphfnohgdpjaaDoor.ST
set_option linter.unusedVariables false
set_option linter.unusedSimpArgs false
open Go.RowKit Go.Proofs.YtjjphfnohgdpjaaDoor.K Go.Proofs.YtjjphfnohgdpjaaDoor.SN Go.Proofs.YtjjphfnohgdpjaaDoor.SL Go.Proofs.YtjjphfnohgdpjaaDoorW.PrintWords
def numV (acc : Nat) (l : B) : Nat := l.foldl (fun a c => a * 10 + (c.toNat - 48)) acc
theorem numV_nil (acc : Nat) : numV acc [] = acc := rfl
theorem numV_cons (acc : Nat) (c : UInt8) (r : B) : numV acc (c :: r) = numV (acc * 10 + (c.toNat - 48)) r := by unfold numV; rw [List.foldl_cons]
theorem val_ge : ∀ (l : B) (acc : Nat), acc ≤ numV acc l
  | [], acc => Nat.le_refl _
  | c :: r, acc => by
    have := val_ge r (acc * 10 + (c.toNat - 48))
    rw [numV_cons]; omega
theorem val_app (c : UInt8) : ∀ (l : B) (acc : Nat), numV acc (l ++ [c]) = numV acc l * 10 + (c.toNat - 48)
  | [], acc => by rw [List.nil_append, numV_cons, numV_nil, numV_nil]
  | x :: r, acc => by rw [List.cons_append, numV_cons, numV_cons, val_app c r]
theorem digit_range (c : UInt8) (h : digitsN.contains c = true) : 48 ≤ c.toNat ∧ c.toNat ≤ 57 := by
  rw [List.contains_iff_mem] at h
  simp only [digitsN, List.mem_cons, List.not_mem_nil, or_false] at h
  rcases h with rfl | rfl | rfl | rfl | rfl | rfl | rfl | rfl | rfl | rfl <;> decide
theorem uint_val : ∀ (l : B) (acc : Nat), (∀ c ∈ l, digitsN.contains c = true) → acc ≤ 18446744073709551615 → Lib.parseUintM 18446744073709551615 acc l = if numV acc l ≤ 18446744073709551615 then .ok (numV acc l) else .range
  | [], acc, _, h => by rw [Lib.parseUintM, numV_nil, if_pos h]
  | c :: r, acc, hd, h => by
    have hc := digit_range c (hd c List.mem_cons_self)
    have hg := val_ge r (acc * 10 + (c.toNat - 48))
    rw [Lib.parseUintM, numV_cons, if_pos hc]
    by_cases h1 : 1844674407370955162 ≤ acc
    · rw [if_pos h1, if_neg (by omega)]
    · rw [if_neg h1]
      by_cases h2 : 18446744073709551615 < acc * 10 + (c.toNat - 48)
      · rw [if_pos h2, if_neg (by omega)]
      · rw [if_neg h2]
        exact uint_val r _ (fun x hx => hd x (List.mem_cons_of_mem _ hx)) (by omega)
theorem parsed_digits (l : B) (h0 : l ≠ []) (hd : ∀ c ∈ l, digitsN.contains c = true) : if numV 0 l < 9223372036854775808 then parsed l = ((numV 0 l : Int), none) else (parsed l).2.isNone = false := by
  have hu := uint_val l 0 hd (by omega)
  cases l with
  | nil => exact absurd rfl h0
  | cons c r =>
    have hc := digit_range c (hd c List.mem_cons_self)
    have hp : Lib.parseIntB 64 (c :: r) = if numV 0 (c :: r) < 9223372036854775808 then .ok (numV 0 (c :: r) : Int) else .range := by
      unfold Lib.parseIntB
      simp only
      rw [if_neg (by omega)]
      unfold Lib.parseUintB
      rw [if_neg (by simp), show 2 ^ 64 - 1 = 18446744073709551615 from rfl, hu]
      by_cases h1 : numV 0 (c :: r) ≤ 18446744073709551615
      · rw [if_pos h1]
        simp only
        by_cases h2 : numV 0 (c :: r) < 9223372036854775808
        · rw [if_pos h2, if_neg (by rintro ⟨_, h3⟩; have : (2 : Nat) ^ (64 - 1) = 9223372036854775808 := rfl; omega), if_neg (by rintro ⟨h3, _⟩; omega), if_neg (by omega)]
        · rw [if_neg h2, if_pos ⟨by omega, by have : (2 : Nat) ^ (64 - 1) = 9223372036854775808 := rfl; omega⟩]
      · rw [if_neg h1, if_neg (by omega)]
    unfold parsed
    rw [hp]
    by_cases h2 : numV 0 (c :: r) < 9223372036854775808
    · rw [if_pos h2, if_pos h2]
    · rw [if_neg h2, if_neg h2]; rfl
/-! Bytes -/
theorem letter_tab : ∀ n : Nat, n < 256 → marshallingref03_Letter.f (n : Int) = some (letters.contains (UInt8.ofNat n)) := by decide +kernel
theorem digit_tab : ∀ n : Nat, n < 256 → marshallingref03_Digit.f (n : Int) = some (digitsN.contains (UInt8.ofNat n)) := by decide +kernel
theorem space_tab : ∀ n : Nat, n < 256 → marshallingref06_space.f (n : Int) = some (spaceN.contains (UInt8.ofNat n)) := by decide +kernel
theorem signs_tab : ∀ n : Nat, n < 256 → signsN.contains (UInt8.ofNat n) = (letters.contains (UInt8.ofNat n) || digitsN.contains (UInt8.ofNat n)) := by decide +kernel
theorem back8 (c : UInt8) : UInt8.ofNat c.toNat = c := by simp
theorem letter_f (c : UInt8) : marshallingref03_Letter.f (c.toNat : Int) = some (letters.contains c) := by rw [letter_tab c.toNat c.toNat_lt, back8]
theorem digit_f (c : UInt8) : marshallingref03_Digit.f (c.toNat : Int) = some (digitsN.contains c) := by rw [digit_tab c.toNat c.toNat_lt, back8]
theorem space_f (c : UInt8) : marshallingref06_space.f (c.toNat : Int) = some (spaceN.contains c) := by rw [space_tab c.toNat c.toNat_lt, back8]
theorem signs_or (c : UInt8) : signsN.contains c = (letters.contains c || digitsN.contains c) := by have := signs_tab c.toNat c.toNat_lt; rwa [back8] at this
theorem wrap_n (i : Nat) (h : i < 9223372036854775807) : wrap64 ((i : Int) + 1) = ((i + 1 : Nat) : Int) := by unfold wrap64; omega
/-! Names -/
theorem key_ev (a : ByteArray) : Ev (fun k => marshallingref06_key.f k a) (keysN.contains a.data.toList) := by
  unfold marshallingref06_key.f
  refine Ev.got rfl ?_
  have key : ∀ (d i : Nat), i + d = 6 → Ev (fun k => marshallingref06_key.l0 k a [(⟨#[83, 84, 82, 73, 67, 84]⟩ : ByteArray), (⟨#[87, 73, 84, 72, 73, 78]⟩ : ByteArray), (⟨#[66, 89]⟩ : ByteArray), (⟨#[69, 77, 73, 84]⟩ : ByteArray), (⟨#[116, 114, 117, 101]⟩ : ByteArray), (⟨#[102, 97, 108, 115, 101]⟩ : ByteArray)] (i : Int)) ((keysN.drop i).contains a.data.toList) := by
    intro d
    induction d with
    | zero =>
      intro i hi
      have hi : i = 6 := by omega
      subst hi
      refine Ev.step (f := fun k => _) (fun k => by rw [marshallingref06_key.l0]) ?_
      exact Ev.neg (by decide) (Ev.now _)
    | succ d ih =>
      intro i hi
      have hI := ih (i + 1) (by omega)
      rw [← wrap_n i (by omega)] at hI
      have hlt : (i : Int) < 6 := by omega
      refine Ev.step (f := fun k => _) (fun k => by rw [marshallingref06_key.l0]) ?_
      refine Ev.pos hlt (Ev.pos (by omega) ?_)
      have hk : i < keysN.length := by show i < 6; omega
      have hx : (rdOf ByteArray.empty [(⟨#[83, 84, 82, 73, 67, 84]⟩ : ByteArray), (⟨#[87, 73, 84, 72, 73, 78]⟩ : ByteArray), (⟨#[66, 89]⟩ : ByteArray), (⟨#[69, 77, 73, 84]⟩ : ByteArray), (⟨#[116, 114, 117, 101]⟩ : ByteArray), (⟨#[102, 97, 108, 115, 101]⟩ : ByteArray)] (i : Int)).toList = keysN[i] := by
        rcases (by omega : i = 0 ∨ i = 1 ∨ i = 2 ∨ i = 3 ∨ i = 4 ∨ i = 5) with rfl | rfl | rfl | rfl | rfl | rfl <;> (rw [tl]; rfl)
      rw [hx, tl, List.drop_eq_getElem_cons hk, List.contains_cons]
      by_cases h : keysN[i] = a.data.toList
      · refine Ev.pos h (Ev.ret ?_)
        rw [← h]; simp
      · have hb : (a.data.toList == keysN[i]) = false := by simpa using fun e => h e.symm
        rw [hb, Bool.false_or]
        exact Ev.neg h hI
  exact key 6 0 rfl
theorem keys_short : ∀ x ∈ keysN, x.length ≤ 20 := by decide
/-- What the document's functions hand back, against what is meant (the length apart). -/
structure FitsR (r : Int × ByteArray × Int × Int × Bool) (o : Option (Int × B × Int × Nat)) : Prop where
  out : match o with
    | some (kd, t, v, m) => r = (kd, ⟨t.toArray⟩, v, 0, true) ∧ m = t.length
    | none => r.2.2.2.2 = false
theorem name_ev (a : ByteArray) (h : a.size < 9223372036854775807) (h0 : ∃ c r, a.data.toList = c :: r ∧ letters.contains c = true) : ∃ r, Ev (fun k => marshallingref06_name.f k a) r ∧ FitsR r (namedS a.data.toList) := by
  have hle := span_le signsN a.data.toList
  have htk := span_take signsN a.data.toList
  have hnx := span_next signsN a.data.toList
  unfold namedS
  obtain ⟨c0, r0, hc0, hl0⟩ := h0
  have hpos := span_pos signsN _ c0 r0 hc0 (letters_signs c0 hl0)
  generalize spanN signsN a.data.toList = n at hle htk hnx hpos ⊢
  have hsz : n ≤ a.size := by rw [← dsize]; exact hle
  have hext : ∀ m : Nat, a.extract 0 m = ⟨(a.data.toList.take m).toArray⟩ := fun m => bext (by rw [ext_take])
  have fin : ∃ r, Ev (fun k => (marshallingref06_key.f k (a.extract 0 ((n : Int)).toNat)).bind fun t287 => (if t287 = true then (some ((5 : Int), a.extract 0 ((n : Int)).toNat, (0 : Int), (0 : Int), true)) else (some ((1 : Int), a.extract 0 ((n : Int)).toNat, (0 : Int), (0 : Int), decide ((n : Int) ≤ 20))))) r ∧ FitsR r (namedAt n a.data.toList) := by
    rw [Int.toNat_natCast, hext]
    have hk := key_ev ⟨(a.data.toList.take n).toArray⟩
    rw [mk_data] at hk
    have hlen : (a.data.toList.take n).length = n := by rw [List.length_take]; omega
    have hhead : headLetter (a.data.toList.take n) = true := by
      obtain ⟨m, rfl⟩ : ∃ m, n = m + 1 := ⟨n - 1, by omega⟩
      rw [hc0, List.take_succ_cons]; exact hl0
    have hall : (a.data.toList.take n).all signsN.contains = true := List.all_eq_true.2 htk
    have hnm : isNm (a.data.toList.take n) = (!keysN.contains (a.data.toList.take n) && decide (n ≤ 20)) := by
      unfold isNm
      rw [hlen, hall, hhead]
      simp
    unfold namedAt
    rw [hnm]
    by_cases hkey : keysN.contains (a.data.toList.take n) = true
    · have h20 : n ≤ 20 := by rw [← hlen]; exact keys_short _ (List.contains_iff_mem.1 hkey)
      refine ⟨_, Ev.bind hk (Ev.pos hkey (Ev.now _)), ⟨?_⟩⟩
      rw [hkey, if_neg (by simp), if_neg (by omega)]
      exact ⟨rfl, hlen.symm⟩
    · have hkey' : keysN.contains (a.data.toList.take n) = false := by simpa using hkey
      refine ⟨_, Ev.bind hk (Ev.neg hkey (Ev.now _)), ⟨?_⟩⟩
      rw [hkey']
      by_cases h20 : n ≤ 20
      · rw [decide_eq_true h20, if_pos (by rfl)]
        refine ⟨?_, hlen.symm⟩
        rw [decide_eq_true (by omega : (n : Int) ≤ 20)]
      · rw [decide_eq_false h20, if_neg (by simp), if_pos (by omega)]
        show decide _ = false
        exact decide_eq_false (by omega)
  obtain ⟨r, hr, hf⟩ := fin
  refine ⟨r, ?_, hf⟩
  have key : ∀ (d i : Nat), i + d = n → Ev (fun k => marshallingref06_name.l0 k a (i : Int)) r := by
    intro d
    induction d with
    | zero =>
      intro i hi
      have hi : i = n := by omega
      subst hi
      refine Ev.step (f := fun k => _) (fun k => by rw [marshallingref06_name.l0]) ?_
      by_cases hlt : i < a.data.toList.length
      · have hn := hnx a.data.toList[i] (List.getElem?_eq_getElem hlt)
        rw [signs_or, Bool.or_eq_false_iff] at hn
        have hb := bt_eq a i hlt
        rw [hb, letter_f, digit_f, hn.1, hn.2]
        rw [dsize] at hlt
        exact Ev.pos (by omega) (Ev.pos (by omega) (Ev.got rfl (Ev.neg (by simp) (Ev.got rfl (Ev.neg (by simp) (Ev.pos (by omega) hr))))))
      · rw [dsize] at hlt
        exact Ev.neg (by omega) (Ev.pos (by omega) (Ev.pos (by omega) hr))
    | succ d ih =>
      intro i hi
      have hlt : i < a.data.toList.length := by omega
      have hb := bt_eq a i hlt
      have hs := htk a.data.toList[i] (List.mem_take_iff_getElem.2 ⟨i, by omega, rfl⟩)
      rw [signs_or] at hs
      have hI := ih (i + 1) (by omega)
      rw [← wrap_n i (by rw [dsize] at hlt; omega)] at hI
      refine Ev.step (f := fun k => _) (fun k => by rw [marshallingref06_name.l0]) ?_
      rw [hb, letter_f, digit_f]
      rw [dsize] at hlt
      refine Ev.pos (by omega) (Ev.pos (by omega) (Ev.got rfl ?_))
      by_cases hl : letters.contains (a.data.toList[i]'(by rw [dsize]; exact hlt)) = true
      · exact Ev.pos hl hI
      · exact Ev.neg hl (Ev.got rfl (Ev.pos (((Bool.or_eq_true _ _).mp hs).resolve_left hl) hI))
  exact key n 0 (by omega)
/-! Numbers -/
def NumR (L : B) (v : Int) (f : Bool) : Prop := (f = true ∧ v = (numV 0 L : Int) ∧ numV 0 L < 9223372036854775808) ∨ (f = false ∧ 0 ≤ v ∧ v < 9223372036854775808 ∧ 9223372036854775808 ≤ numV 0 L)
theorem number_ev (a : ByteArray) (h : a.size < 9223372036854775807) (h0 : ∃ c r, a.data.toList = c :: r ∧ digitsN.contains c = true) : ∃ r, Ev (fun k => marshallingref06_number.f k a) r ∧ FitsR r (countedS a.data.toList) := by
  have hle := span_le digitsN a.data.toList
  have htk := span_take digitsN a.data.toList
  have hnx := span_next digitsN a.data.toList
  unfold countedS
  obtain ⟨c0, r0, hc0, hl0⟩ := h0
  have hpos := span_pos digitsN _ c0 r0 hc0 hl0
  generalize spanN digitsN a.data.toList = n at hle htk hnx hpos ⊢
  have hsz : n ≤ a.size := by rw [← dsize]; exact hle
  have hext : ∀ m : Nat, a.extract 0 m = ⟨(a.data.toList.take m).toArray⟩ := fun m => bext (by rw [ext_take])
  have hlen : (a.data.toList.take n).length = n := by rw [List.length_take]; omega
  have hne : a.data.toList.take n ≠ [] := fun e => by rw [e] at hlen; simp at hlen; omega
  have hpd := parsed_digits _ hne htk
  have hlen0 : 0 < a.data.toList.length := by rw [hc0]; simp
  have hb0 : bt a 0 = ((a.data.toList[0]).toNat : Int) := bt_eq a 0 hlen0
  have hh : a.data.toList.head? = some (a.data.toList[0]) := by rw [List.head?_eq_getElem?, List.getElem?_eq_getElem hlen0]
  have h48 : (bt a 0 != 48) = !decide (a.data.toList.head? = some 48) := by
    rw [hh, hb0]
    by_cases e : a.data.toList[0] = 48
    · rw [e]; rfl
    · have : ¬ ((a.data.toList[0]).toNat : Int) = 48 := fun h => e (UInt8.toNat_inj.1 (by show _ = 48; omega))
      rw [decide_eq_false (show ¬ some (a.data.toList[0]) = some 48 from fun h => e (Option.some.inj h))]
      exact bne_iff_ne.2 this
  have fin : ∀ (v : Int) (f : Bool), NumR (a.data.toList.take n) v f → ∃ r, Ev (fun k => marshallingref06_number.j1 k a (n : Int) v f false) r ∧ FitsR r (countedAt n a.data.toList) := by
    intro v f hN
    have st : ∀ r, Ev (fun k => if f = true then (if (n : Int) = 1 then (some ((2 : Int), a.extract 0 ((n : Int)).toNat, v, (0 : Int), true)) else (if 0 < (a.size : Int) then (some ((2 : Int), a.extract 0 ((n : Int)).toNat, v, (0 : Int), ((bt a 0) != 48))) else (none))) else (some ((2 : Int), a.extract 0 ((n : Int)).toNat, v, (0 : Int), false))) r → Ev (fun k => marshallingref06_number.j1 k a (n : Int) v f false) r := by
      intro r hr
      refine Ev.step (f := fun k => _) (fun k => by rw [marshallingref06_number.j1]) ?_
      exact Ev.neg (by simp) (Ev.pos (by omega) (Ev.pos (by omega) hr))
    rw [Int.toNat_natCast, hext] at st
    unfold countedAt
    rcases hN with ⟨rfl, rfl, h3⟩ | ⟨rfl, h2, h3, h4⟩
    · rw [if_pos h3] at hpd
      rw [hpd]
      by_cases h1 : n = 1
      · refine ⟨_, st _ (Ev.pos rfl (Ev.pos (by omega) (Ev.now _))), ⟨?_⟩⟩
        rw [if_pos (show (none : Option Int).isNone = true from rfl), if_neg (by omega)]
        exact ⟨rfl, hlen.symm⟩
      · refine ⟨_, st _ (Ev.pos rfl (Ev.neg (by omega) (Ev.pos (by omega) (Ev.now _)))), ⟨?_⟩⟩
        rw [if_pos (show (none : Option Int).isNone = true from rfl), h48]
        by_cases hz : a.data.toList.head? = some 48
        · rw [if_pos ⟨by omega, hz⟩, decide_eq_true hz]; rfl
        · rw [if_neg (fun h => hz h.2), decide_eq_false hz]
          exact ⟨rfl, hlen.symm⟩
    · rw [if_neg (by omega)] at hpd
      refine ⟨_, st _ (Ev.neg (by simp) (Ev.now _)), ⟨?_⟩⟩
      rw [hpd, if_neg (by simp)]
  have key : ∀ (d i : Nat) (v : Int) (f : Bool), i + d = n → NumR (a.data.toList.take i) v f → ∃ r, Ev (fun k => marshallingref06_number.l0 k a (i : Int) v f) r ∧ FitsR r (countedAt n a.data.toList) := by
    intro d
    induction d with
    | zero =>
      intro i v f hi hN
      have hi : i = n := by omega
      subst hi
      obtain ⟨r, hr, hf⟩ := fin v f hN
      refine ⟨r, ?_, hf⟩
      refine Ev.step (f := fun k => _) (fun k => by rw [marshallingref06_number.l0]) ?_
      by_cases hlt : i < a.data.toList.length
      · have hn := hnx a.data.toList[i] (List.getElem?_eq_getElem hlt)
        rw [bt_eq a i hlt, digit_f, hn]
        rw [dsize] at hlt
        exact Ev.pos (by omega) (Ev.pos (by omega) (Ev.got rfl hr))
      · rw [dsize] at hlt
        exact Ev.neg (by omega) hr
    | succ d ih =>
      intro i v f hi hN
      have hlt : i < a.data.toList.length := by omega
      have hs := htk a.data.toList[i] (List.mem_take_iff_getElem.2 ⟨i, by omega, rfl⟩)
      have hr := digit_range _ hs
      have hb := bt_eq a i hlt
      have hD : (bt a (i : Int) - 48) % 256 = (((a.data.toList[i]).toNat - 48 : Nat) : Int) := by rw [hb]; omega
      have hv : numV 0 (a.data.toList.take (i + 1)) = numV 0 (a.data.toList.take i) * 10 + ((a.data.toList[i]).toNat - 48) := by
        rw [List.take_succ_eq_append_getElem hlt, val_app]
      generalize hd : (a.data.toList[i]).toNat - 48 = D at hD hv
      have hD9 : D ≤ 9 := by omega
      have hbound : 0 ≤ v ∧ v < 9223372036854775808 := by rcases hN with ⟨_, h2, h3⟩ | ⟨_, h2, h3, _⟩ <;> omega
      have step : ∃ r, Ev (fun k => marshallingref06_number.j1 k a (i : Int) v f true) r ∧ FitsR r (countedAt n a.data.toList) := by
        have hlt2 := hlt
        rw [dsize] at hlt2
        by_cases hc : v > (9223372036854775807 - (D : Int)) / 10
        · obtain ⟨r, e1, e2⟩ := ih (i + 1) (D : Int) false (by omega) (by
            right
            rw [hv]
            refine ⟨rfl, by omega, by omega, ?_⟩
            rcases hN with ⟨_, h2, h3⟩ | ⟨_, h2, h3, h4⟩ <;> omega)
          refine ⟨r, ?_, e2⟩
          refine Ev.step (f := fun k => _) (fun k => by rw [marshallingref06_number.j1]) ?_
          rw [hD, wrap_n i (by omega)]
          refine Ev.pos rfl (Ev.pos (by omega) (Ev.pos (by omega) (Ev.pos hc ?_)))
          rw [show (10 * 0 + (D : Int)) = (D : Int) by omega]
          exact e1
        · obtain ⟨r, e1, e2⟩ := ih (i + 1) (10 * v + D) f (by omega) (by
            unfold NumR
            rw [hv]
            rcases hN with ⟨h1, h2, h3⟩ | ⟨h1, h2, h3, h4⟩
            · exact .inl ⟨h1, by omega, by omega⟩
            · exact .inr ⟨h1, by omega, by omega, by omega⟩)
          refine ⟨r, ?_, e2⟩
          have w2 : wrap64 (wrap64 (10 * v) + (D : Int)) = 10 * v + D := by
            rw [show wrap64 (10 * v) = 10 * v by unfold wrap64; omega]; unfold wrap64; omega
          refine Ev.step (f := fun k => _) (fun k => by rw [marshallingref06_number.j1]) ?_
          rw [hD, wrap_n i (by omega), w2]
          exact Ev.pos rfl (Ev.pos (by clear w2; omega) (Ev.pos (by clear w2; omega) (Ev.neg hc e1)))
      obtain ⟨r, e1, e2⟩ := step
      refine ⟨r, ?_, e2⟩
      refine Ev.step (f := fun k => _) (fun k => by rw [marshallingref06_number.l0]) ?_
      rw [hb, digit_f, hs]
      rw [dsize] at hlt
      exact Ev.pos (by omega) (Ev.pos (by omega) (Ev.got rfl e1))
  exact key n 0 0 true (by omega) (.inl ⟨rfl, rfl, by rw [List.take_zero]; decide⟩)
/-! Quotes -/
theorem quote_ev (a : ByteArray) (h : a.size < 9223372036854775000) (h0 : 0 < a.size) : ∃ r, Ev (fun k => marshallingref06_quote.f k a) r ∧ FitsP r (quotedS a.data.toList) := by
  have key : ∀ (d i : Nat), i + d = 66 → 1 ≤ i → i ≤ a.size → (∀ k, 1 ≤ k → k < i → a.data.toList[k]? ≠ some 39) → ∃ r, Ev (fun k => marshallingref06_quote.l0 k a (i : Int)) r ∧ FitsP r (quotedS a.data.toList) := by
    have stop : ∀ i : Nat, 1 ≤ i → i ≤ a.size → (i = a.size ∨ 66 ≤ i) → (∀ k, 1 ≤ k → k < i → a.data.toList[k]? ≠ some 39) → ∃ r, Ev (fun k => marshallingref06_quote.j1 k a (i : Int) false) r ∧ FitsP r (quotedS a.data.toList) := by
      intro i h1 h2 h3 hn
      refine ⟨_, Ev.step (f := fun k => _) (fun k => by rw [marshallingref06_quote.j1]) (Ev.neg (by simp) (Ev.now _)), ⟨?_⟩⟩
      unfold quotedS
      have hg := Lib.indexByte_ge (a.data.toList.drop 1) 39
      have hs := fun o => @Lib.indexByte_some (a.data.toList.drop 1) 39 o
      have hl := indexByte_lt (a.data.toList.drop 1) 39
      rw [List.length_drop, dsize] at hl
      generalize Lib.indexByte (a.data.toList.drop 1) 39 = q at hg hs hl ⊢
      unfold quotedAt
      by_cases hq : q < 0
      · rw [if_pos hq]; rfl
      · have hx := (hs q.toNat (by omega)).1
        rw [List.getElem?_drop] at hx
        have : ¬ 1 + q.toNat < i := fun hlt => hn (1 + q.toNat) (by omega) hlt hx
        rw [if_neg hq, if_pos (by omega)]
        rfl
    intro d
    induction d with
    | zero =>
      intro i hi h1 h2 hn
      obtain ⟨r, e1, e2⟩ := stop i h1 h2 (.inr (by omega)) hn
      refine ⟨r, ?_, e2⟩
      refine Ev.step (f := fun k => _) (fun k => by rw [marshallingref06_quote.l0]) ?_
      by_cases hlt : (i : Int) < (a.size : Int)
      · exact Ev.pos hlt (by rw [decide_eq_false (by omega : ¬ (i : Int) ≤ 65)]; exact e1)
      · exact Ev.neg hlt e1
    | succ d ih =>
      intro i hi h1 h2 hn
      by_cases hlt : i < a.size
      · have hlt2 : i < a.data.toList.length := by rw [dsize]; exact hlt
        have hb := bt_eq a i hlt2
        have h65 : decide ((i : Int) ≤ 65) = true := decide_eq_true (by omega)
        by_cases hq : a.data.toList[i] = 39
        · refine ⟨(3, ⟨((a.data.toList.drop 1).take (i - 1)).toArray⟩, 0, 0, ((i - 1 + 2 : Nat) : Int), true), ?_, ⟨?_⟩⟩
          · refine Ev.step (f := fun k => _) (fun k => by rw [marshallingref06_quote.l0]) ?_
            refine Ev.pos (by omega) ?_
            rw [h65]
            refine Ev.step (f := fun k => _) (fun k => by rw [marshallingref06_quote.j1]) ?_
            refine Ev.pos rfl (Ev.pos (by omega) (Ev.pos (by omega) (Ev.pos (by rw [hb, hq]; rfl) (Ev.pos (by omega) (Ev.pos (by omega) (Ev.ret ?_))))))
            have e : a.extract 1 ((i : Int)).toNat = ⟨((a.data.toList.drop 1).take (i - 1)).toArray⟩ := by
              refine bext ?_
              rw [Int.toNat_natCast, ByteArray.data_extract, Array.toList_extract]
            rw [e, wrap_n i (by omega), show i - 1 + 2 = i + 1 by omega]
          · unfold quotedS
            have hd : a.data.toList.drop 1 = (a.data.toList.drop 1).take (i - 1) ++ 39 :: a.data.toList.drop (i + 1) := by
              conv => lhs; rw [← List.take_append_drop (i - 1) (a.data.toList.drop 1), List.drop_drop, show 1 + (i - 1) = i by omega, List.drop_eq_getElem_cons hlt2, hq]
            have hni : (39 : UInt8) ∉ (a.data.toList.drop 1).take (i - 1) := by
              intro hm
              obtain ⟨k, hk, e⟩ := List.mem_take_iff_getElem.1 hm
              refine hn (1 + k) (by omega) (by omega) ?_
              have hk2 : k < (a.data.toList.drop 1).length := by omega
              rw [← List.getElem?_drop, List.getElem?_eq_getElem hk2, e]
            have hidx := index_first 39 (a.data.toList.drop (i + 1)) _ hni
            rw [← hd] at hidx
            have hl : ((a.data.toList.drop 1).take (i - 1)).length = i - 1 := by rw [List.length_take, List.length_drop, dsize]; omega
            rw [hl] at hidx
            rw [hidx]
            unfold quotedAt
            rw [if_neg (by omega), if_neg (by omega), Int.toNat_natCast]
            rfl
        · obtain ⟨r, e1, e2⟩ := ih (i + 1) (by omega) (by omega) (by omega) (fun k k1 k2 => by
            by_cases hk : k = i
            · subst hk
              rw [List.getElem?_eq_getElem hlt2]
              exact fun e => hq (Option.some.inj e)
            · exact hn k k1 (by omega))
          refine ⟨r, ?_, e2⟩
          refine Ev.step (f := fun k => _) (fun k => by rw [marshallingref06_quote.l0]) ?_
          refine Ev.pos (by omega) ?_
          rw [h65]
          refine Ev.step (f := fun k => _) (fun k => by rw [marshallingref06_quote.j1]) ?_
          refine Ev.pos rfl (Ev.pos (by omega) (Ev.pos (by omega) (Ev.neg ?_ ?_)))
          · rw [hb]; exact fun e => hq (UInt8.toNat_inj.1 (by show _ = 39; omega))
          · rw [wrap_n i (by omega)]; exact e1
      · obtain ⟨r, e1, e2⟩ := stop i h1 h2 (.inl (by omega)) hn
        refine ⟨r, ?_, e2⟩
        refine Ev.step (f := fun k => _) (fun k => by rw [marshallingref06_quote.l0]) ?_
        exact Ev.neg (by omega) e1
  exact key 65 1 rfl (Nat.le_refl _) (by omega) (fun k k1 k2 => by omega)
/-! Signs -/
theorem prefix_iff (a : ByteArray) (x : ByteArray) : (x.size ≤ a.size ∧ (a.extract 0 x.size).toList = x.toList) ↔ Lib.hasPrefix a.data.toList x.data.toList = true := by
  unfold Lib.hasPrefix
  rw [tl, tl, ext_take, List.isPrefixOf_iff_prefix]
  constructor
  · rintro ⟨h1, h2⟩
    rw [List.prefix_iff_eq_take, dsize]
    exact h2.symm
  · intro h
    refine ⟨by rw [← dsize, ← dsize]; exact h.length_le, ?_⟩
    rw [← dsize]
    exact (List.prefix_iff_eq_take.1 h).symm
theorem sign_ev (a : ByteArray) (h : a.size < 9223372036854775000) : ∃ r, Ev (fun k => marshallingref06_sign.f k a) r ∧ FitsR r (signedS a.data.toList) := by
  have key : ∀ (d i : Nat) (b : ByteArray), i + d = 25 → Ev (fun k => marshallingref06_sign.l0 k a signsL (i : Int) 4 b 0 0) (4, bestSign a.data.toList (signsL.drop i) b, 0, 0, (bestSign a.data.toList (signsL.drop i) b).toList != ([] : B)) := by
    intro d
    induction d with
    | zero =>
      intro i b hi
      have hi : i = 25 := by omega
      subst hi
      refine Ev.step (f := fun k => _) (fun k => by rw [marshallingref06_sign.l0]) ?_
      exact Ev.neg (by decide) (Ev.now _)
    | succ d ih =>
      intro i b hi
      have hlt : i < signsL.length := by show i < 25; omega
      have hx : signsL[i]? = some signsL[i] := List.getElem?_eq_getElem hlt
      have er : rdOf ByteArray.empty signsL (i : Int) = signsL[i] := by unfold rdOf; simp [hlt]
      rw [bestSign_at _ _ _ _ _ hx]
      generalize signsL[i] = x at er ⊢
      have hp := prefix_iff a x
      refine Ev.step (f := fun k => _) (fun k => by rw [marshallingref06_sign.l0]) ?_
      rw [er, wrap_n i (by omega), Int.toNat_natCast]
      refine Ev.pos (by show (i : Int) < 25; omega) (Ev.pos (by omega) ?_)
      by_cases h1 : (x.size : Int) ≤ (a.size : Int)
      · refine Ev.pos h1 (Ev.pos (by omega) ?_)
        by_cases h2 : (a.extract 0 x.size).toList = x.toList
        · refine Ev.pos h2 ?_
          have hq := hp.1 ⟨by omega, h2⟩
          by_cases h3 : (x.size : Int) > (b.size : Int)
          · rw [if_pos ⟨h3, hq⟩]
            exact Ev.pos h3 (ih (i + 1) x (by omega))
          · rw [if_neg (fun h => h3 h.1)]
            exact Ev.neg h3 (ih (i + 1) b (by omega))
        · rw [if_neg (fun h => h2 (hp.2 h.2).2)]
          exact Ev.neg h2 (ih (i + 1) b (by omega))
      · rw [if_neg (fun h => h1 (by have := (hp.2 h.2).1; omega))]
        exact Ev.neg h1 (ih (i + 1) b (by omega))
  unfold marshallingref06_sign.f
  refine ⟨_, Ev.got (a := signsL) rfl (key 25 0 ⟨#[]⟩ rfl), ⟨?_⟩⟩
  rw [List.drop_zero]
  unfold signedS signedAt
  generalize bestSign a.data.toList signsL ⟨#[]⟩ = b
  by_cases hb : b.data.toList = []
  · rw [if_pos hb]
    show (b.toList != []) = false
    rw [tl, hb]; rfl
  · rw [if_neg hb]
    refine ⟨?_, rfl⟩
    have e : (b.toList != ([] : B)) = true := by rw [tl]; simpa using hb
    rw [e, bs_eq]
/-! One word -/
theorem one_ev (a : ByteArray) (h : a.size < 4611686018427387904) (h0 : 0 < a.size) : ∃ r, Ev (fun k => marshallingref06_one.f k a) r ∧ FitsP r (firstS a.data.toList) := by
  have hlen : 0 < a.data.toList.length := by rw [dsize]; exact h0
  have hb := bt_eq a 0 hlen
  have hb : bt a 0 = ((a.data.toList[0]).toNat : Int) := hb
  have lift : ∀ (r : Int × ByteArray × Int × Int × Bool) (o : Option (Int × B × Int × Nat)), FitsR r o → FitsP (r.1, r.2.1, r.2.2.1, r.2.2.2.1, (r.2.1.size : Int), r.2.2.2.2) o := by
    intro r o hf
    cases o with
    | none => exact ⟨hf.out⟩
    | some x =>
      obtain ⟨kd, t, v, m⟩ := x
      obtain ⟨rfl, rfl⟩ := hf.out
      refine ⟨?_⟩
      show _ = _
      have : (⟨t.toArray⟩ : ByteArray).size = t.length := by rw [← dsize]
      simp only [this]
  have hfirst : firstS a.data.toList = if letters.contains a.data.toList[0] = true then namedS a.data.toList else if digitsN.contains a.data.toList[0] = true then countedS a.data.toList else if a.data.toList[0] = 39 then quotedS a.data.toList else signedS a.data.toList := by
    generalize a.data.toList = L at *
    cases L with
    | nil => simp at hlen
    | cons c l => rfl
  have hcons : a.data.toList = a.data.toList[0] :: a.data.toList.drop 1 := by
    conv => lhs; rw [← List.drop_zero (l := a.data.toList), List.drop_eq_getElem_cons hlen]
  rw [hfirst]
  unfold marshallingref06_one.f
  rw [hb, letter_f, digit_f]
  by_cases h1 : letters.contains a.data.toList[0] = true
  · obtain ⟨r, e, f⟩ := name_ev a (by omega) ⟨_, _, hcons, h1⟩
    rw [if_pos h1]
    exact ⟨_, Ev.pos (by omega) (Ev.got rfl (Ev.pos h1 (Ev.bind e (Ev.now _)))), lift r _ f⟩
  · rw [if_neg h1]
    by_cases h2 : digitsN.contains a.data.toList[0] = true
    · obtain ⟨r, e, f⟩ := number_ev a (by omega) ⟨_, _, hcons, h2⟩
      rw [if_pos h2]
      exact ⟨_, Ev.pos (by omega) (Ev.got rfl (Ev.neg h1 (Ev.got rfl (Ev.pos h2 (Ev.bind e (Ev.now _)))))), lift r _ f⟩
    · rw [if_neg h2]
      by_cases h3 : a.data.toList[0] = 39
      · obtain ⟨r, e, f⟩ := quote_ev a (by omega) h0
        rw [if_pos h3]
        exact ⟨r, Ev.pos (by omega) (Ev.got rfl (Ev.neg h1 (Ev.got rfl (Ev.neg h2 (Ev.pos (by rw [h3]; rfl) (Ev.bind e (Ev.now _))))))), f⟩
      · obtain ⟨r, e, f⟩ := sign_ev a (by omega)
        rw [if_neg h3]
        have h4 : ¬ (((a.data.toList[0]).toNat : Int) = 39) := fun e => h3 (UInt8.toNat_inj.1 (by show _ = 39; omega))
        exact ⟨_, Ev.pos (by omega) (Ev.got rfl (Ev.neg h1 (Ev.got rfl (Ev.neg h2 (Ev.neg h4 (Ev.bind e (Ev.now _))))))), lift r _ f⟩
/-! All the words -/
def to50 (x : S40) : S50 := ⟨x.f0, x.f1, x.f2, x.f3⟩
def outR (N : Nat) (acc : List S50) (r : List S40 × Nat × Int) : List S50 × Int × Int := if r.2.2 = 0 then (acc ++ r.1.map to50, (N : Int), 0) else ([], (r.2.1 : Int), r.2.2)
theorem ref_go (a : ByteArray) (hsz : a.size ≤ 2048) : ∀ (n p : Nat) (acc : List S50), (a.data.toList.drop p).length ≤ n → p ≤ a.size → acc.length ≤ p →
    Ev (fun k => marshallingref06_All.l0 k a acc (p : Int)) (outR a.size acc (lexW ((a.data.toList.drop p).drop (spanN spaceN (a.data.toList.drop p))) (p + spanN spaceN (a.data.toList.drop p)))) := by
  intro n
  induction n with
  | zero =>
    intro p acc hn hp hacc
    rw [List.length_drop, dsize] at hn
    have e : a.data.toList.drop p = [] := List.drop_of_length_le (by rw [dsize]; omega)
    rw [e]
    refine Ev.step (f := fun k => _) (fun k => by rw [marshallingref06_All.l0]) ?_
    refine Ev.neg (by omega) (Ev.ret ?_)
    show some (acc, _, _) = some (outR a.size acc (lexW [] _))
    rw [lexW_nil]
    unfold outR
    simp
  | succ n ih =>
    intro p acc hn hp hacc
    rw [List.length_drop, dsize] at hn
    by_cases hlt : p < a.data.toList.length
    · have hlt2 : p < a.size := by rw [← dsize]; exact hlt
      have hb := bt_eq a p hlt
      have hcons := List.drop_eq_getElem_cons hlt
      refine Ev.step (f := fun k => _) (fun k => by rw [marshallingref06_All.l0]) ?_
      rw [hb, space_f]
      refine Ev.pos (by omega) (Ev.pos (by omega) (Ev.got rfl ?_))
      by_cases hsp : spaceN.contains a.data.toList[p] = true
      · have hs1 : spanN spaceN (a.data.toList.drop p) = spanN spaceN (a.data.toList.drop (p + 1)) + 1 := by
          rw [hcons]; unfold spanN; rw [List.takeWhile_cons_of_pos hsp, List.length_cons]
        have hI := ih (p + 1) acc (by rw [List.length_drop, dsize]; omega) (by omega) (by omega)
        rw [List.drop_drop] at hI ⊢
        rw [hs1, show p + (spanN spaceN (a.data.toList.drop (p + 1)) + 1) = p + 1 + spanN spaceN (a.data.toList.drop (p + 1)) by omega]
        refine Ev.pos hsp ?_
        rw [wrap_n p (by omega)]
        exact hI
      · have hs0 : spanN spaceN (a.data.toList.drop p) = 0 := by
          rw [hcons]; unfold spanN; rw [List.takeWhile_cons_of_neg hsp]; rfl
        rw [hs0, List.drop_zero, Nat.add_zero]
        have hxs : (a.extract p a.size).size = a.size - p := by rw [← dsize, ext_drop, List.length_drop, dsize]
        obtain ⟨r, er, fr⟩ := one_ev (a.extract p a.size) (by omega) (by omega)
        rw [ext_drop] at fr
        have hne : a.data.toList.drop p ≠ [] := by rw [hcons]; simp
        refine Ev.neg hsp (Ev.pos (by omega) (Ev.bind er ?_))
        cases hF : firstS (a.data.toList.drop p) with
        | none =>
          rw [hF] at fr
          rw [lexW_bad p hne hF]
          refine Ev.neg ?_ (Ev.ret ?_)
          · rw [show r.2.2.2.2.2 = false from fr.out]; simp
          · simp [outR]
        | some x =>
          obtain ⟨kd, t, v, m⟩ := x
          rw [hF] at fr
          obtain rfl : r = (kd, ⟨t.toArray⟩, v, 0, (m : Int), true) := fr.out
          obtain ⟨m1, m2⟩ := first_bounds hF
          rw [List.length_drop, dsize] at m2
          have hI := ih (p + m) (acc ++ [(⟨kd, ⟨t.toArray⟩, v, (p : Int)⟩ : S50)]) (by rw [List.length_drop, dsize]; omega) (by omega) (by rw [List.length_append, List.length_singleton]; omega)
          rw [lexW_tok p hF]
          rw [List.drop_drop] at hI
          rw [List.drop_drop, List.drop_drop]
          generalize spanN spaceN (a.data.toList.drop (p + m)) = w at hI ⊢
          rw [Nat.add_assoc] at hI
          dsimp only
          refine Ev.pos rfl (Ev.pos (by omega) ?_)
          rw [show wrap64 ((p : Int) + (m : Int)) = ((p + m : Nat) : Int) by unfold wrap64; omega]
          have e : outR a.size acc ((⟨kd, ⟨t.toArray⟩, v, (p : Int)⟩ : S40) :: (lexW (a.data.toList.drop (p + (m + w))) (p + (m + w))).1, (lexW (a.data.toList.drop (p + (m + w))) (p + (m + w))).2) = outR a.size (acc ++ [(⟨kd, ⟨t.toArray⟩, v, (p : Int)⟩ : S50)]) (lexW (a.data.toList.drop (p + (m + w))) (p + (m + w))) := by
            unfold outR
            simp [to50]
          rw [e]
          exact hI
    · rw [dsize] at hlt
      have e : a.data.toList.drop p = [] := List.drop_of_length_le (by rw [dsize]; omega)
      rw [e]
      refine Ev.step (f := fun k => _) (fun k => by rw [marshallingref06_All.l0]) ?_
      refine Ev.neg (by omega) (Ev.ret ?_)
      show some (acc, _, _) = some (outR a.size acc (lexW [] _))
      rw [lexW_nil]
      unfold outR
      simp
end Go.Proofs.YtjjphfnohgdpjaaDoor.ST
