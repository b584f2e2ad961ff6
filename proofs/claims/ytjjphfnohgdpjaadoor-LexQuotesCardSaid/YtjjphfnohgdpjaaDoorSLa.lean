/- Layer 6 in plain Lean: what span, named, counted, quoted, signed, first and All compute. -/
import Derived.Test.YtjjphfnohgdpjaaDoorSN
import Derived.Test.YtjjphfnohgdpjaaDoorK4
import Derived.Lib.IndexAny
import Derived.Lib.IndexLaws
namespace Go.Proofs.YtjjphfnohgdpjaaDoor.SL
set_option linter.unusedVariables false
set_option linter.unusedSimpArgs false
open Go.RowKit Go.Proofs.YtjjphfnohgdpjaaDoor.K Go.Proofs.YtjjphfnohgdpjaaDoor.SN Go.Proofs.YtjjphfnohgdpjaaDoorW.PrintWords
/-! One byte, one cut -/
theorem bt_eq (a : ByteArray) (i : Nat) (h : i < a.data.toList.length) : bt a (i : Int) = ((a.data.toList[i]).toNat : Int) := by
  have h' : i < a.size := by rwa [dsize] at h
  unfold bt
  rw [dif_pos (show ((i : Int)).toNat < a.size from h')]
  rfl
theorem u8_back (x : UInt8) : (((x.toNat : Nat) : Int)).toNat.toUInt8 = x := by simp
theorem ext_take (a : ByteArray) (n : Nat) : (a.extract 0 n).data.toList = a.data.toList.take n := by simp
theorem ext_drop (a : ByteArray) (n : Nat) : (a.extract n a.size).data.toList = a.data.toList.drop n := by
  rw [ByteArray.data_extract, Array.toList_extract]
  simp only [List.extract_eq_take_drop]
  rw [List.take_of_length_le (by rw [List.length_drop, dsize]; omega)]
def spanN (set s : B) : Nat := (s.takeWhile set.contains).length
theorem span_le (set s : B) : spanN set s ≤ s.length := (List.takeWhile_sublist _).length_le
theorem span_ev (a set : ByteArray) (h : a.size < 9223372036854775807) : Ev (fun k => lex_span.f k a set) (spanN set.data.toList a.data.toList : Int) := by
  have key : ∀ (d i : Nat), i + d = a.data.toList.length → Ev (fun k => lex_span.l0 k a set (i : Int)) ((i + spanN set.data.toList (a.data.toList.drop i) : Nat) : Int) := by
    intro d
    induction d with
    | zero =>
      intro i hi
      refine Ev.step (f := fun k => _) (fun k => by rw [lex_span.l0]) ?_
      rw [List.drop_of_length_le (by omega)]
      refine Ev.neg (by rw [← dsize]; omega) (Ev.ret ?_)
      simp [spanN]
    | succ d ih =>
      intro i hi
      have hlt : i < a.data.toList.length := by omega
      refine Ev.step (f := fun k => _) (fun k => by rw [lex_span.l0]) ?_
      refine Ev.pos (by rw [← dsize]; omega) (Ev.pos (by omega) (Ev.got (a := Lib.indexByte set.data.toList a.data.toList[i]) ?_ ?_))
      · rw [bt_eq a i hlt]
        unfold strings_IndexByte.f
        rw [u8_back]
      · have hc := Lib.contains_iff_indexByte set.data.toList a.data.toList[i]
        rw [List.drop_eq_getElem_cons hlt]
        by_cases h0 : Lib.indexByte set.data.toList a.data.toList[i] ≥ 0
        · rw [decide_eq_true h0] at hc
          refine Ev.pos h0 ?_
          have hs := ih (i + 1) (by omega)
          have hw : wrap64 ((i : Int) + 1) = ((i + 1 : Nat) : Int) := by
            have : i < 9223372036854775807 := by rw [dsize] at hlt; omega
            unfold wrap64; omega
          rw [hw]
          have he : i + spanN set.data.toList (a.data.toList[i] :: a.data.toList.drop (i + 1)) = i + 1 + spanN set.data.toList (a.data.toList.drop (i + 1)) := by
            unfold spanN
            rw [List.takeWhile_cons_of_pos hc, List.length_cons]
            omega
          rw [he]
          exact hs
        · rw [decide_eq_false h0] at hc
          refine Ev.neg h0 (Ev.ret ?_)
          unfold spanN
          rw [List.takeWhile_cons_of_neg (by rw [hc]; simp)]
          rfl
  have := key a.data.toList.length 0 (by omega)
  rw [List.drop_zero, Nat.zero_add] at this
  exact this
/-! The words -/
def digitsN : B := [48, 49, 50, 51, 52, 53, 54, 55, 56, 57]
def spaceN : B := [32, 9, 10, 13]
def namedAt (n : Nat) (s : B) : Option (Int × B × Int × Nat) :=
  if isNm (s.take n) = true then some (1, s.take n, 0, n) else if n > 20 then none else some (5, s.take n, 0, n)
def namedS (s : B) : Option (Int × B × Int × Nat) := namedAt (spanN signsN s) s
def countedAt (n : Nat) (s : B) : Option (Int × B × Int × Nat) :=
  if (parsed (s.take n)).2.isNone = true then (if n > 1 ∧ s.head? = some 48 then none else some (2, s.take n, (parsed (s.take n)).1, n)) else none
def countedS (s : B) : Option (Int × B × Int × Nat) := countedAt (spanN digitsN s) s
def quotedAt (n : Int) (s : B) : Option (Int × B × Int × Nat) :=
  if n < 0 then none else if n > 64 then none else some (3, (s.drop 1).take n.toNat, 0, n.toNat + 2)
def quotedS (s : B) : Option (Int × B × Int × Nat) := quotedAt (Lib.indexByte (s.drop 1) 39) s
def signedAt (b : B) : Option (Int × B × Int × Nat) :=
  if b = [] then none else some (4, b, 0, b.length)
def signedS (s : B) : Option (Int × B × Int × Nat) := signedAt (bestSign s signsL ⟨#[]⟩).data.toList
def firstS (s : B) : Option (Int × B × Int × Nat) :=
  match s with
  | [] => none
  | c :: _ => if letters.contains c = true then namedS s else if digitsN.contains c = true then countedS s else if c = 39 then quotedS s else signedS s
/-- What a function of the lexer hands back, against what is meant. -/
def Fits (r : Int × ByteArray × Int × Int × Int × Bool) : Option (Int × B × Int × Nat) → Prop
  | some (kd, t, v, m) => r = (kd, ⟨t.toArray⟩, v, 0, (m : Int), true)
  | none => r.2.2.2.2.2 = false
/-- The same, as a sealed fact. -/
structure FitsP (r : Int × ByteArray × Int × Int × Int × Bool) (o : Option (Int × B × Int × Nat)) : Prop where
  out : Fits r o
theorem named_ev (a : ByteArray) (h : a.size < 9223372036854775807) : ∃ r, Ev (fun k => lex_named.f k a) r ∧ FitsP r (namedS a.data.toList) := by
  have hs := span_ev a ⟨signsN.toArray⟩ h
  have hl := span_le signsN a.data.toList
  rw [dsize] at hl
  generalize hn : spanN signsN a.data.toList = n at hs hl
  unfold namedS namedAt lex_named.f
  rw [hn]
  have hnm : Ev (fun k => stream_IsName.f k (a.extract 0 n)) (isNm (a.data.toList.take n)) := by
    rw [← ext_take]
    exact Ev.of (fun k => stream_IsName.mono _ k) (isName_f 0 _)
  have he : (a.extract 0 n) = ⟨(a.data.toList.take n).toArray⟩ := bext (by rw [ext_take])
  by_cases h1 : isNm (a.data.toList.take n) = true
  · refine ⟨_, Ev.bind hs (Ev.pos (by omega) (Ev.pos (by omega) (Ev.bind hnm (Ev.pos h1 (Ev.now _))))), ?_⟩
    rw [if_pos h1]
    refine ⟨?_⟩
    show _ = _
    rw [Int.toNat_natCast, he]
  · by_cases h2 : n > 20
    · refine ⟨_, Ev.bind hs (Ev.pos (by omega) (Ev.pos (by omega) (Ev.bind hnm (Ev.neg h1 (Ev.pos (by omega) (Ev.now _)))))), ?_⟩
      rw [if_neg h1, if_pos h2]
      exact ⟨rfl⟩
    · refine ⟨_, Ev.bind hs (Ev.pos (by omega) (Ev.pos (by omega) (Ev.bind hnm (Ev.neg h1 (Ev.neg (by omega) (Ev.now _)))))), ?_⟩
      rw [if_neg h1, if_neg h2]
      refine ⟨?_⟩
      show _ = _
      rw [Int.toNat_natCast, he]
theorem counted_ev (a : ByteArray) (h : a.size < 281474976710656) (h0 : 0 < a.size) : ∃ r, Ev (fun k => lex_counted.f k a) r ∧ FitsP r (countedS a.data.toList) := by
  have hs := span_ev a ⟨digitsN.toArray⟩ (by omega)
  have hl := span_le digitsN a.data.toList
  rw [dsize] at hl
  generalize hn : spanN digitsN a.data.toList = n at hs hl
  unfold countedS countedAt lex_counted.f
  rw [hn]
  have he : (a.extract 0 n) = ⟨(a.data.toList.take n).toArray⟩ := bext (by rw [ext_take])
  have hp : strconv_ParseInt.f (a.extract 0 n) 10 64 = some (parsed (a.data.toList.take n)) := by
    unfold strconv_ParseInt.f
    rw [if_pos ⟨by rw [← dsize, ext_take, List.length_take]; omega, rfl, rfl⟩, ext_take]
  have hb : (bt a 0 = 48) ↔ a.data.toList.head? = some 48 := by
    have hlen : 0 < a.data.toList.length := by rw [dsize]; exact h0
    have e0 : bt a 0 = ((a.data.toList[0]).toNat : Int) := bt_eq a 0 hlen
    rw [e0, List.head?_eq_getElem?, List.getElem?_eq_getElem hlen, Option.some.injEq]
    constructor
    · intro e
      exact UInt8.toNat_inj.1 (by show _ = 48; omega)
    · intro e; rw [e]; rfl
  by_cases h1 : (parsed (a.data.toList.take n)).2.isNone = true
  · by_cases h2 : n > 1
    · by_cases h3 : bt a 0 = 48
      · refine ⟨_, Ev.bind hs (Ev.pos (by omega) (Ev.pos (by omega) (Ev.got hp (Ev.pos h1 (Ev.pos (by omega) (Ev.pos (by omega) (Ev.pos h3 (Ev.now _)))))))), ?_⟩
        rw [if_pos h1, if_pos ⟨h2, hb.1 h3⟩]
        exact ⟨rfl⟩
      · refine ⟨_, Ev.bind hs (Ev.pos (by omega) (Ev.pos (by omega) (Ev.got hp (Ev.pos h1 (Ev.pos (by omega) (Ev.pos (by omega) (Ev.neg h3 (Ev.now _)))))))), ?_⟩
        rw [if_pos h1, if_neg (fun h => h3 (hb.2 h.2))]
        refine ⟨?_⟩
        show _ = _
        rw [Int.toNat_natCast, he]
    · refine ⟨_, Ev.bind hs (Ev.pos (by omega) (Ev.pos (by omega) (Ev.got hp (Ev.pos h1 (Ev.neg (by omega) (Ev.now _)))))), ?_⟩
      rw [if_pos h1, if_neg (fun h => h2 h.1)]
      refine ⟨?_⟩
      show _ = _
      rw [Int.toNat_natCast, he]
  · refine ⟨_, Ev.bind hs (Ev.pos (by omega) (Ev.pos (by omega) (Ev.got hp (Ev.neg h1 (Ev.now _))))), ?_⟩
    rw [if_neg h1]
    exact ⟨rfl⟩
theorem indexByte_lt : ∀ (l : B) (c : UInt8), Lib.indexByte l c < l.length
  | [], _ => by simp [Lib.indexByte]
  | b :: l, c => by
    have ih := indexByte_lt l c
    unfold Lib.indexByte
    simp only [List.length_cons]
    split
    · omega
    · split <;> omega
theorem quoted_f (a : ByteArray) (h : a.size < 9223372036854775000) (h0 : 0 < a.size) : ∃ r, lex_quoted.f a = some r ∧ FitsP r (quotedS a.data.toList) := by
  unfold lex_quoted.f quotedS quotedAt strings_IndexByte.f
  rw [if_pos (by omega), ext_drop]
  simp only [Option.bind_some]
  have e39 : (39 : Int).toNat.toUInt8 = 39 := rfl
  rw [e39]
  have hlt := indexByte_lt (a.data.toList.drop 1) 39
  rw [List.length_drop, dsize] at hlt
  generalize Lib.indexByte (a.data.toList.drop 1) 39 = n at hlt ⊢
  by_cases h1 : n < 0
  · rw [if_pos h1, if_pos h1]; exact ⟨_, rfl, ⟨rfl⟩⟩
  · rw [if_neg h1, if_neg h1]
    by_cases h2 : n > 64
    · rw [if_pos h2, if_pos h2]; exact ⟨_, rfl, ⟨rfl⟩⟩
    · have w1 : wrap64 (n + 1) = n + 1 := by unfold wrap64; omega
      have w2 : wrap64 (n + 2) = n + 2 := by unfold wrap64; omega
      rw [if_neg h2, if_neg h2, w1, w2, if_pos (by omega), if_pos (by omega)]
      refine ⟨_, rfl, ?_⟩
      refine ⟨?_⟩
      show _ = _
      have e : a.extract 1 (n + 1).toNat = ⟨((a.data.toList.drop 1).take n.toNat).toArray⟩ := by
        refine bext ?_
        rw [ByteArray.data_extract, Array.toList_extract]
        simp only [List.extract_eq_take_drop]
        rw [show (n + 1).toNat - 1 = n.toNat by omega]
      have e2 : n + 2 = ((n.toNat + 2 : Nat) : Int) := by omega
      rw [e, e2]
theorem signed_f (a : ByteArray) : ∃ r, lex_signed.f a = some r ∧ FitsP r (signedS a.data.toList) := by
  unfold lex_signed.f signedS signedAt
  refine ⟨_, rfl, ?_⟩
  generalize bestSign a.data.toList signsL ⟨#[]⟩ = b
  by_cases h : b.data.toList = []
  · rw [if_pos h]
    refine ⟨?_⟩
    show (b.toList != []) = false
    rw [tl, h]; rfl
  · rw [if_neg h]
    refine ⟨?_⟩
    show _ = _
    have e : (b.toList != ([] : B)) = true := by rw [tl]; simpa using h
    rw [e, bs_eq, dsize]
/-! How many bytes a word has -/
theorem span_pos (set s : B) (c : UInt8) (r : B) (hs : s = c :: r) (h : set.contains c = true) : 1 ≤ spanN set s := by
  subst hs; unfold spanN; rw [List.takeWhile_cons_of_pos h, List.length_cons]; omega
theorem best_any (s : B) : ∀ (l : List ByteArray) (b : ByteArray), (bestSign s l b = b) ∨ (bestSign s l b ∈ l ∧ Lib.hasPrefix s (bestSign s l b).data.toList = true)
  | [], b => .inl rfl
  | x :: r, b => by
    unfold bestSign
    by_cases h : (b.size : Int) < (x.size : Int) ∧ Lib.hasPrefix s x.data.toList = true
    · rw [if_pos h]
      rcases best_any s r x with e | ⟨e1, e2⟩
      · rw [e]; exact .inr ⟨List.mem_cons_self, h.2⟩
      · exact .inr ⟨List.mem_cons_of_mem _ e1, e2⟩
    · rw [if_neg h]
      rcases best_any s r b with e | ⟨e1, e2⟩
      · exact .inl e
      · exact .inr ⟨List.mem_cons_of_mem _ e1, e2⟩
theorem letters_signs (c : UInt8) (h : letters.contains c = true) : signsN.contains c = true := by
  unfold signsN
  rw [List.contains_iff_mem] at h ⊢
  exact List.mem_append_left _ h
theorem first_bounds {s : B} {kd : Int} {t : B} {v : Int} {m : Nat} (h : firstS s = some (kd, t, v, m)) : 1 ≤ m ∧ m ≤ s.length := by
  cases s with
  | nil => simp [firstS] at h
  | cons c r =>
    unfold firstS at h
    simp only at h
    by_cases h1 : letters.contains c = true
    · rw [if_pos h1] at h
      unfold namedS namedAt at h
      have hp := span_pos signsN (c :: r) c r rfl (letters_signs c h1)
      have hl := span_le signsN (c :: r)
      split at h
      · simp only [Option.some.injEq, Prod.mk.injEq] at h; omega
      · split at h
        · cases h
        · simp only [Option.some.injEq, Prod.mk.injEq] at h; omega
    · rw [if_neg h1] at h
      by_cases h2 : digitsN.contains c = true
      · rw [if_pos h2] at h
        unfold countedS countedAt at h
        have hp := span_pos digitsN (c :: r) c r rfl h2
        have hl := span_le digitsN (c :: r)
        split at h
        · split at h
          · cases h
          · simp only [Option.some.injEq, Prod.mk.injEq] at h; omega
        · cases h
      · rw [if_neg h2] at h
        by_cases h3 : c = 39
        · rw [if_pos h3] at h
          unfold quotedS quotedAt at h
          have hl := indexByte_lt ((c :: r).drop 1) 39
          rw [List.length_drop] at hl
          split at h
          · cases h
          · split at h
            · cases h
            · simp only [Option.some.injEq, Prod.mk.injEq] at h
              have := h.2.2.2
              simp only [List.length_cons] at hl ⊢
              omega
        · rw [if_neg h3] at h
          unfold signedS signedAt at h
          split at h
          · cases h
          · rename_i hb
            simp only [Option.some.injEq, Prod.mk.injEq] at h
            obtain ⟨_, _, _, rfl⟩ := h
            refine ⟨List.length_pos_iff.2 hb, ?_⟩
            rcases best_any (c :: r) signsL ⟨#[]⟩ with e | ⟨_, e⟩
            · exact absurd (by rw [e]) hb
            · exact (List.isPrefixOf_iff_prefix.1 e).length_le
/-! All the words -/
def lexG : Nat → B → Nat → List S40 × Nat × Int
  | 0, _, p => ([], p, 0)
  | f + 1, s, p => if s = [] then ([], p, 0) else match firstS s with
    | none => ([], p, 2)
    | some (kd, t, v, m) => ((⟨kd, ⟨t.toArray⟩, v, (p : Int)⟩ : S40) :: (lexG f (s.drop (m + spanN spaceN (s.drop m))) (p + (m + spanN spaceN (s.drop m)))).1, (lexG f (s.drop (m + spanN spaceN (s.drop m))) (p + (m + spanN spaceN (s.drop m)))).2)
def outS (acc : List S40) (r : List S40 × Nat × Int) : List S40 × Int × Int := if r.2.2 = 0 then (acc ++ r.1, (r.2.1 : Int), 0) else ([], (r.2.1 : Int), r.2.2)
/-- The words of what is left at a place. -/
def lexW (s : B) (p : Nat) : List S40 × Nat × Int := lexG s.length s p
theorem lexG_fuel : ∀ (f g : Nat) (s : B) (p : Nat), s.length ≤ f → s.length ≤ g → lexG f s p = lexG g s p
  | 0, 0, _, _, _, _ => rfl
  | 0, g + 1, s, p, h, _ => by
    have : s = [] := List.length_eq_zero_iff.1 (by omega)
    subst this; simp [lexG]
  | f + 1, 0, s, p, _, h => by
    have : s = [] := List.length_eq_zero_iff.1 (by omega)
    subst this; simp [lexG]
  | f + 1, g + 1, s, p, hf, hg => by
    rw [lexG, lexG]
    by_cases h0 : s = []
    · rw [if_pos h0, if_pos h0]
    · rw [if_neg h0, if_neg h0]
      cases hF : firstS s with
      | none => rfl
      | some x =>
        obtain ⟨kd, t, v, m⟩ := x
        have := first_bounds hF
        simp only
        rw [lexG_fuel f g _ _ (by rw [List.length_drop]; omega) (by rw [List.length_drop]; omega)]
theorem lexW_nil (p : Nat) : lexW [] p = ([], p, 0) := rfl
theorem lexW_bad {s : B} (p : Nat) (h0 : s ≠ []) (h : firstS s = none) : lexW s p = ([], p, 2) := by
  unfold lexW
  cases hl : s.length with
  | zero => exact absurd (List.length_eq_zero_iff.1 hl) h0
  | succ n => rw [lexG, if_neg h0, h]
theorem lexW_tok {s : B} (p : Nat) {kd : Int} {t : B} {v : Int} {m : Nat} (h : firstS s = some (kd, t, v, m)) :
    lexW s p = ((⟨kd, ⟨t.toArray⟩, v, (p : Int)⟩ : S40) :: (lexW (s.drop (m + spanN spaceN (s.drop m))) (p + (m + spanN spaceN (s.drop m)))).1, (lexW (s.drop (m + spanN spaceN (s.drop m))) (p + (m + spanN spaceN (s.drop m)))).2) := by
  obtain ⟨m1, m2⟩ := first_bounds h
  have h0 : s ≠ [] := by rintro rfl; simp at m2; omega
  unfold lexW
  cases hl : s.length with
  | zero => omega
  | succ n =>
    rw [lexG, if_neg h0, h]
    simp only
    rw [lexG_fuel n _ _ _ (by rw [List.length_drop]; omega) (Nat.le_refl _)]
def allS (s : B) : List S40 × Int × Int := if s.length > 2048 then ([], 2048, 4) else outS [] (lexW (s.drop (spanN spaceN s)) (spanN spaceN s))
end Go.Proofs.YtjjphfnohgdpjaaDoor.SL
