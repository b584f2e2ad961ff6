/- Layer 3 in plain Lean: what cut, split, join, put, get, right and own compute. -/
import Derived.Test.YtcfdnicnjhilkaaDoorJ3
import Derived.Test.YtcfdnicnjhilkaaDoorJ6
import Derived.Test.YtcfdnicnjhilkaaDoorJ8
import Derived.Test.YtcfdnicnjhilkaaDoorJ9
import Derived.Test.YtcfdnicnjhilkaaDoorJ10
import Derived.Test.YtcfdnicnjhilkaaDoorJ12
namespace Go.Proofs.YtcfdnicnjhilkaaDoor.SPJ
set_option linter.unusedVariables false
set_option linter.unusedSimpArgs false
open Go.RowKit Go.Proofs.YtcfdnicnjhilkaaDoor.J Go.Proofs.YtcfdnicnjhilkaaDoorW.PrintWords
/-! Rounds: from some number on. -/
theorem Ev.pos {α : Type} {c : Prop} [Decidable c] {A B : Nat → Option α} {r : α} (hc : c) (h : Ev A r) : Ev (fun k => if c then A k else B k) r := Ev.congr (fun k => if_pos hc) h
theorem Ev.neg {α : Type} {c : Prop} [Decidable c] {A B : Nat → Option α} {r : α} (hc : ¬ c) (h : Ev B r) : Ev (fun k => if c then A k else B k) r := Ev.congr (fun k => if_neg hc) h
theorem Ev.got {α β : Type} {x : Option α} {a : α} {f : Nat → α → Option β} {r : β} (hx : x = some a) (h : Ev (fun k => f k a) r) : Ev (fun k => x.bind (f k)) r := by subst hx; exact h
theorem Ev.ret {α : Type} {x : Option α} {r : α} (hx : x = some r) : Ev (fun _ => x) r := by subst hx; exact Ev.now r
/-! Bytes and texts -/
abbrev B := List UInt8
theorem bs_eq (a : ByteArray) : (⟨a.data.toList.toArray⟩ : ByteArray) = a := rfl
theorem tl (a : ByteArray) : a.toList = a.data.toList := ByteArray.toList_eq a
theorem bext {a b : ByteArray} (h : a.data.toList = b.data.toList) : a = b := Go.WideShapes.bytes_inj h
theorem dsize (a : ByteArray) : a.data.toList.length = a.size := by rw [Array.length_toList]; rfl
/-! One byte's place in a text -/
theorem index_hit (c : UInt8) : ∀ (a r : B), c ∉ a → Lib.index (a ++ c :: r) [c] = a.length
  | [], r, _ => by simp [Lib.index, List.isPrefixOf]
  | b :: a, r, h => by
    have hb : c ≠ b := fun e => h (by simp [e])
    have ih := index_hit c a r (fun e => h (by simp [e]))
    simp only [List.cons_append, Lib.index, List.isPrefixOf, ih]
    have : (c == b) = false := by simpa using hb
    simp only [this, Bool.false_and, Bool.false_eq_true, if_false]
    rw [if_neg (by simp)]
    simp
theorem index_miss (c : UInt8) : ∀ (a : B), c ∉ a → Lib.index a [c] = -1
  | [], _ => by simp [Lib.index]
  | b :: a, h => by
    have hb : c ≠ b := fun e => h (by simp [e])
    have ih := index_miss c a (fun e => h (by simp [e]))
    have : (c == b) = false := by simpa using hb
    simp [Lib.index, List.isPrefixOf, ih, this]
theorem contains_byte (c : UInt8) (s : B) : Lib.contains s [c] = s.contains c := by
  by_cases h : c ∈ s
  · obtain ⟨a, r, e, hn⟩ := List.append_of_mem h |> fun _ => (by
      obtain ⟨a, r, e⟩ := List.append_of_mem h
      have := List.mem_iff_append.1 h
      exact (List.eq_append_cons_of_mem h) : ∃ a r, s = a ++ c :: r ∧ c ∉ a)
    rw [show s.contains c = true from List.contains_iff_mem.2 h, Lib.contains, e, index_hit c a r hn]
    simp
  · rw [Lib.contains, index_miss c s h]
    simp [h]
theorem cut_hit (c : UInt8) (a r : B) (h : c ∉ a) : Lib.cut (a ++ c :: r) [c] = (a, r, true) := by
  rw [Lib.cut, index_hit c a r h, if_pos (by omega)]
  simp
theorem split_hit (c : UInt8) (a r : B) (h : c ∉ a) : Lib.split (a ++ c :: r) [c] = a :: Lib.split r [c] := by
  have hc := Lib.count_hit (s := a ++ c :: r) (sub := [c]) (by simp) (index_hit c a r h)
  have hd : (a ++ c :: r).drop (a.length + 1) = r := by simp
  simp only [List.length_singleton, hd] at hc
  unfold Lib.split
  rw [hc, Nat.add_comm, Lib.splitK, index_hit c a r h]
  rw [if_neg (by simp)]
  simp
theorem split_miss (c : UInt8) (a : B) (h : c ∉ a) : Lib.split a [c] = [a] := by
  unfold Lib.split
  rw [Lib.count_miss (index_miss c a h)]
  rfl
theorem split_join (c : UInt8) : ∀ (x : B) (r : List B), (∀ y ∈ x :: r, c ∉ y) → Lib.split (Lib.join (x :: r) [c]) [c] = x :: r
  | x, [], h => by rw [Lib.join_one]; exact split_miss c x (h x (by simp))
  | x, y :: r, h => by
    have ih := split_join c y r (fun z hz => h z (by simp at hz ⊢; right; exact hz))
    rw [Lib.join_cons] at ih ⊢
    have e : Lib.joinTail [c] (y :: r) = c :: (y ++ Lib.joinTail [c] r) := by simp [Lib.joinTail]
    rw [e, split_hit c x _ (h x (by simp)), ih]
/-! Names -/
def letters : B := [97, 98, 99, 100, 101, 102, 103, 104, 105, 106, 107, 108, 109, 110, 111, 112, 113, 114, 115, 116, 117, 118, 119, 120, 121, 122, 65, 66, 67, 68, 69, 70, 71, 72, 73, 74, 75, 76, 77, 78, 79, 80, 81, 82, 83, 84, 85, 86, 87, 88, 89, 90, 95]
def signsN : B := letters ++ [48, 49, 50, 51, 52, 53, 54, 55, 56, 57]
def keysN : List B := [[83, 84, 82, 73, 67, 84], [87, 73, 84, 72, 73, 78], [66, 89], [69, 77, 73, 84], [116, 114, 117, 101], [102, 97, 108, 115, 101]]
def headLetter : B → Bool
  | [] => false
  | b :: _ => letters.contains b
def isNm (s : B) : Bool := !keysN.contains s && (decide (s.length ≤ 20) && (s.all signsN.contains && headLetter s))
theorem dropWhile_nil (p : UInt8 → Bool) (l : B) : (l.dropWhile p = []) ↔ l.all p = true := by
  induction l with
  | nil => simp
  | cons b l ih =>
    by_cases h : p b = true
    · rw [List.dropWhile_cons_of_pos h, ih]; simp [h]
    · rw [List.dropWhile_cons_of_neg h]; simp [h]
theorem isName_j0 (k : Nat) (a : ByteArray) (b : Bool) : stream_IsName.j0 (k + 1) a b = some (!b && (decide (a.data.toList.length ≤ 20) && (a.data.toList.all signsN.contains && headLetter a.data.toList))) := by
  cases b with
  | true => simp [stream_IsName.j0]
  | false =>
    simp only [stream_IsName.j0]
    rw [if_neg (by decide), if_pos (by decide)]
    have hc : stream_cutLeft.f a ((⟨#[97, 98, 99, 100, 101, 102, 103, 104, 105, 106, 107, 108, 109, 110, 111, 112, 113, 114, 115, 116, 117, 118, 119, 120, 121, 122, 65, 66, 67, 68, 69, 70, 71, 72, 73, 74, 75, 76, 77, 78, 79, 80, 81, 82, 83, 84, 85, 86, 87, 88, 89, 90, 95]⟩ : ByteArray) ++ (⟨#[48, 49, 50, 51, 52, 53, 54, 55, 56, 57]⟩ : ByteArray)) = some ⟨(a.data.toList.dropWhile signsN.contains).toArray⟩ := by
      unfold stream_cutLeft.f
      rw [if_pos (by decide +kernel)]
      rfl
    rw [hc]
    simp only [Option.bind_some, tl]
    by_cases h0 : a.data.toList = []
    · rw [if_pos h0, h0]; simp [headLetter]
    · rw [if_neg h0]
      by_cases h20 : (a.size : Int) ≤ 20
      · rw [if_pos h20]
        have h20' : a.data.toList.length ≤ 20 := by rw [dsize]; omega
        by_cases hd : a.data.toList.dropWhile signsN.contains = []
        · have hall := (dropWhile_nil _ _).1 hd
          have h1 : (1 : Int) ≤ (a.size : Int) := by
            have : a.data.toList.length ≠ 0 := fun e => h0 (List.eq_nil_of_length_eq_zero e)
            rw [dsize] at this
            omega
          rw [if_pos hd, if_pos (by decide), if_pos h1]
          have hcon : strings_Contains.f (⟨#[97, 98, 99, 100, 101, 102, 103, 104, 105, 106, 107, 108, 109, 110, 111, 112, 113, 114, 115, 116, 117, 118, 119, 120, 121, 122, 65, 66, 67, 68, 69, 70, 71, 72, 73, 74, 75, 76, 77, 78, 79, 80, 81, 82, 83, 84, 85, 86, 87, 88, 89, 90, 95]⟩ : ByteArray) (a.extract 0 1) = some (headLetter a.data.toList) := by
            unfold strings_Contains.f
            rw [if_pos (by decide), Lib.extract_from_zero]
            cases hs : a.data.toList with
            | nil => exact absurd hs h0
            | cons b r => exact congrArg some (contains_byte b letters)
          rw [hcon, show decide (a.data.toList.length ≤ 20) = true from decide_eq_true h20', hall]
          rfl
        · have hall : a.data.toList.all signsN.contains = false := by
            rw [Bool.eq_false_iff]
            exact fun e => hd ((dropWhile_nil _ _).2 e)
          rw [if_neg hd]
          simp [hall]
      · rw [if_neg h20]
        have h20' : ¬ a.data.toList.length ≤ 20 := by rw [dsize]; omega
        rw [show decide (a.data.toList.length ≤ 20) = false from decide_eq_false h20']
        rfl
theorem isName_f (k : Nat) (a : ByteArray) : stream_IsName.f (k + 1) a = some (isNm a.data.toList) := by
  unfold stream_IsName.f isNm keysN
  simp only [isName_j0, tl]
  repeat' split
  all_goals first | (simp_all [List.contains_cons]; done) | (by_cases h6 : a.data.toList = [102, 97, 108, 115, 101] <;> simp_all [List.contains_cons])
/-! Words of kinds, fields, streams as texts -/
def wordS (k : Int) : B := if k = 1 then [105, 110, 116] else if k = 2 then [98, 111, 111, 108] else if k = 3 then [116, 101, 120, 116] else [63]
theorem word_f (k : Int) : stream_word.f k = some ⟨(wordS k).toArray⟩ := by
  unfold stream_word.f wordS
  repeat' split
  all_goals rfl
theorem wordS_len (k : Int) : (wordS k).length ≤ 4 := by unfold wordS; repeat' split
                                                         all_goals simp
def fput (x : S60) : B := x.f0.data.toList ++ [58] ++ wordS x.f1
theorem mk_size (l : B) : (⟨l.toArray⟩ : ByteArray).size = l.length := by show l.toArray.size = _; simp
theorem app_eq (a : ByteArray) (l : B) : a ++ (⟨l.toArray⟩ : ByteArray) = ⟨(a.data.toList ++ l).toArray⟩ := by
  apply bext
  rw [ByteArray.data_append]
  simp
theorem fieldPut_f (n : ByteArray) (k : Int) (h : n.size ≤ 4611686018427387904) : stream_Field_put.f n k = some ⟨(n.data.toList ++ [58] ++ wordS k).toArray⟩ := by
  unfold stream_Field_put.f
  have hw := wordS_len k
  rw [if_pos (by omega), word_f]
  simp only [Option.bind_some]
  rw [show (⟨#[58]⟩ : ByteArray) = ⟨([58] : B).toArray⟩ from rfl, app_eq, app_eq]
  rw [if_pos (by rw [mk_size, mk_size, List.length_append, dsize]; simp; omega)]
def putS (n : B) (l : List S60) : B := n ++ [40] ++ Lib.join (l.map fput) [44] ++ [41]
theorem le_tail (sep y : B) : ∀ r : List B, y ∈ r → y.length ≤ (Lib.joinTail sep r).length
  | [], h => by simp at h
  | x :: r, h => by
    have e : Lib.joinTail sep (x :: r) = sep ++ x ++ Lib.joinTail sep r := by simp [Lib.joinTail]
    rw [e]
    simp only [List.length_append]
    rcases List.mem_cons.1 h with rfl | h
    · omega
    · have := le_tail sep y r h; omega
theorem le_join (sep y : B) (xs : List B) (h : y ∈ xs) : y.length ≤ (Lib.join xs sep).length := by
  cases xs with
  | nil => simp at h
  | cons x r =>
    rw [Lib.join_cons, List.length_append]
    rcases List.mem_cons.1 h with rfl | h
    · omega
    · have := le_tail sep y r h; omega
theorem wrap_nat (i : Nat) (h : i < 9223372036854775807) : wrap64 ((i : Int) + 1) = ((i + 1 : Nat) : Int) := by
  unfold wrap64; omega
theorem rd_get (l : List S60) (i : Nat) (h : i < l.length) : rd_T60 l (i : Int) = l[i] := by
  simp [rd_T60, h]
theorem put_f (n : ByteArray) (l : List S60) (hl : l.length < 8796093022208) (hs : (putS n.data.toList l).length ≤ 140737488355327) : Ev (fun k => stream_Put.f k n l) ⟨(putS n.data.toList l).toArray⟩ := by
  have hj : (Lib.join (l.map fput) [44]).length ≤ 140737488355327 := by
    unfold putS at hs; simp only [List.length_append] at hs; omega
  have hf : ∀ x ∈ l, (fput x).length ≤ 140737488355327 := fun x hx => Nat.le_trans (le_join [44] _ _ (List.mem_map_of_mem hx)) hj
  have hn : n.size ≤ 140737488355327 := by
    unfold putS at hs; simp only [List.length_append, dsize] at hs; omega
  have key : ∀ (d i : Nat) (acc : List ByteArray), i + d = l.length → acc = (l.take i).map (fun x => ⟨(fput x).toArray⟩) →
      Ev (fun k => stream_Put.l0 k acc l (l.length : Int) (i : Int) n l) ⟨(putS n.data.toList l).toArray⟩ := by
    intro d
    induction d with
    | zero =>
      intro i acc hi hacc
      obtain rfl : i = l.length := by omega
      rw [List.take_length] at hacc
      refine Ev.step (f := fun k => _) (fun k => by rw [stream_Put.l0]) ?_
      refine Ev.neg (by omega) (Ev.pos (by omega) ?_)
      have hJ : strings_Join.f acc (⟨#[44]⟩ : ByteArray) = some ⟨(Lib.join (l.map fput) [44]).toArray⟩ := by
        unfold strings_Join.f
        have e : acc.map (·.data.toList) = l.map fput := by rw [hacc, List.map_map]; rfl
        rw [e]
        rw [if_pos ⟨by rw [hacc]; simp; omega, by show (Lib.join (l.map fput) [44]).length ≤ _; omega⟩]
      rw [hJ]
      simp only [Option.bind_some]
      have e40 : (⟨#[40]⟩ : ByteArray) = ⟨([40] : B).toArray⟩ := rfl
      have e41 : (⟨#[41]⟩ : ByteArray) = ⟨([41] : B).toArray⟩ := rfl
      rw [e40, e41, app_eq, app_eq, app_eq]
      refine Ev.pos ?_ (Ev.pos ?_ (Ev.ret rfl))
      · rw [mk_size, mk_size]; unfold putS at hs; simp only [List.length_append] at hs ⊢; simp only [List.length_append] at *; omega
      · rw [mk_size]; unfold putS at hs; simp only [List.length_append, List.length_singleton] at hs ⊢; omega
    | succ d ih =>
      intro i acc hi hacc
      have hlt : i < l.length := by omega
      refine Ev.step (f := fun k => _) (fun k => by rw [stream_Put.l0]) ?_
      refine Ev.pos (by omega) (Ev.pos (by omega) (Ev.pos (by omega) ?_))
      rw [rd_get l i hlt]
      have hx := hf _ (List.getElem_mem hlt)
      have hsz : (l[i].f0).size ≤ 4611686018427387904 := by
        unfold fput at hx; simp only [List.length_append, dsize] at hx; omega
      refine Ev.got (fieldPut_f _ _ hsz) ?_
      refine Ev.pos (by rw [hacc]; simp; omega) ?_
      rw [wrap_nat i (by omega)]
      refine ih (i + 1) _ (by omega) ?_
      rw [hacc, List.take_succ_eq_append_getElem hlt, List.map_append]
      rfl
  exact key l.length 0 [] (by omega) (by simp)
/-! What may be -/
def goS : List B → List S60 → Int
  | _, [] => 0
  | done, x :: r => if isNm x.f0.data.toList = true then (if x.f1 < 1 then 6 else if x.f1 > 3 then 6 else if done.contains x.f0.data.toList = true then 11 else goS (done ++ [x.f0.data.toList]) r) else 5
def rightS (n : B) (l : List S60) : Int := if isNm n = true then (if l.length > 6 then 4 else goS [] l) else 5
theorem go_f (k : Nat) : ∀ (l : List S60) (done : List B), (∀ x ∈ l, x.f0.size ≤ 9223372036854775807) → stream_Right.go (k + 1) done l = some (goS done l)
  | [], _, _ => rfl
  | x :: r, done, h => by
    rw [stream_Right.go, if_pos (h x (by simp)), isName_f, goS]
    simp only [Option.bind_some]
    have ih := go_f k r (done ++ [x.f0.data.toList]) (fun y hy => h y (by simp [hy]))
    by_cases h1 : isNm x.f0.data.toList = true
    · rw [if_pos h1, if_pos h1]
      by_cases h2 : x.f1 < 1
      · rw [if_pos h2, if_pos h2]
      · rw [if_neg h2, if_neg h2]
        by_cases h3 : x.f1 > 3
        · rw [if_pos h3, if_pos h3]
        · rw [if_neg h3, if_neg h3]
          by_cases h4 : done.contains x.f0.data.toList = true
          · rw [if_pos h4, if_pos h4]
          · rw [if_neg h4, if_neg h4, ih]
    · rw [if_neg h1, if_neg h1]
theorem right_f (k : Nat) (n : ByteArray) (l : List S60) (h : ∀ x ∈ l, x.f0.size ≤ 9223372036854775807) : stream_Right.f (k + 1) n l = some (rightS n.data.toList l) := by
  unfold stream_Right.f rightS
  rw [isName_f]
  simp only [Option.bind_some]
  by_cases h1 : isNm n.data.toList = true
  · rw [if_pos h1, if_pos h1]
    by_cases h2 : l.length > 6
    · rw [if_pos h2, if_pos h2]
    · rw [if_neg h2, if_neg h2, go_f k l [] h]
  · rw [if_neg h1, if_neg h1]
theorem right_ev (n : ByteArray) (l : List S60) (h : ∀ x ∈ l, x.f0.size ≤ 9223372036854775807) : Ev (fun k => stream_Right.f k n l) (rightS n.data.toList l) :=
  Ev.of (fun k => stream_Right.mono _ _ k) (right_f 0 n l h)
theorem isNm_len {s : B} (h : isNm s = true) : s.length ≤ 20 := by
  unfold isNm at h; simp only [Bool.and_eq_true, decide_eq_true_eq] at h; exact h.2.1
theorem isNm_sign {s : B} (h : isNm s = true) : ∀ c ∈ s, c ∈ signsN := by
  unfold isNm at h; simp only [Bool.and_eq_true, List.all_eq_true] at h
  intro c hc
  have := h.2.2.1 c hc
  simpa using this
theorem goS_names : ∀ (l : List S60) (done : List B), goS done l = 0 → ∀ x ∈ l, isNm x.f0.data.toList = true ∧ 1 ≤ x.f1 ∧ x.f1 ≤ 3
  | [], _, _, x, hx => by simp at hx
  | y :: r, done, h, x, hx => by
    rw [goS] at h
    by_cases h1 : isNm y.f0.data.toList = true
    · rw [if_pos h1] at h
      by_cases h2 : y.f1 < 1
      · rw [if_pos h2] at h; omega
      · rw [if_neg h2] at h
        by_cases h3 : y.f1 > 3
        · rw [if_pos h3] at h; omega
        · rw [if_neg h3] at h
          by_cases h4 : done.contains y.f0.data.toList = true
          · rw [if_pos h4] at h; omega
          · rw [if_neg h4] at h
            rcases List.mem_cons.1 hx with rfl | hx
            · exact ⟨h1, by omega, by omega⟩
            · exact goS_names r _ h x hx
    · rw [if_neg h1] at h; omega
theorem rightS_parts {n : B} {l : List S60} (h : rightS n l = 0) : isNm n = true ∧ l.length ≤ 6 ∧ ∀ x ∈ l, isNm x.f0.data.toList = true ∧ 1 ≤ x.f1 ∧ x.f1 ≤ 3 := by
  unfold rightS at h
  by_cases h1 : isNm n = true
  · rw [if_pos h1] at h
    by_cases h2 : l.length > 6
    · rw [if_pos h2] at h; omega
    · rw [if_neg h2] at h
      exact ⟨h1, by omega, goS_names l [] h⟩
  · rw [if_neg h1] at h; omega
theorem tail_le (sep : B) (m : Nat) : ∀ r : List B, (∀ y ∈ r, y.length ≤ m) → (Lib.joinTail sep r).length ≤ r.length * (sep.length + m)
  | [], _ => by simp [Lib.joinTail]
  | x :: r, h => by
    have e : Lib.joinTail sep (x :: r) = sep ++ x ++ Lib.joinTail sep r := by simp [Lib.joinTail]
    have ih := tail_le sep m r (fun y hy => h y (by simp [hy]))
    have hx := h x (by simp)
    rw [e]
    simp only [List.length_append, List.length_cons, Nat.add_mul, Nat.one_mul]
    omega
theorem putS_small {n : B} {l : List S60} (h : rightS n l = 0) : (putS n l).length ≤ 300 := by
  obtain ⟨h1, h2, h3⟩ := rightS_parts h
  have hn := isNm_len h1
  have hf : ∀ y ∈ l.map fput, y.length ≤ 25 := by
    intro y hy
    obtain ⟨x, hx, rfl⟩ := List.mem_map.1 hy
    have := isNm_len (h3 x hx).1
    have := wordS_len x.f1
    unfold fput
    simp only [List.length_append, List.length_singleton]
    omega
  have hj : (Lib.join (l.map fput) [44]).length ≤ 181 := by
    generalize hq : l.map fput = q at hf
    have hql : q.length ≤ 6 := by rw [← hq]; simpa using h2
    cases q with
    | nil => simp [Lib.join]
    | cons x r =>
      rw [Lib.join_cons, List.length_append]
      have := hf x (by simp)
      have ht := tail_le [44] 25 r (fun y hy => hf y (by simp [hy]))
      have hm : r.length * (([44] : B).length + 25) ≤ 5 * 26 := Nat.mul_le_mul (by simp only [List.length_cons] at hql; omega) (by decide)
      omega
  unfold putS
  simp only [List.length_append, List.length_singleton]
  omega
/-! What is got -/
def trimS (x : B) : B := if x.drop (x.length - 1) = [41] then x.take (x.length - 1) else x
def kindS (w : B) : Int := if wordS 1 = w then 1 else if wordS 2 = w then 2 else if wordS 3 = w then 3 else 4
def parseF (p : B) : S60 := ⟨⟨(Lib.cut p [58]).1.toArray⟩, kindS (Lib.cut p [58]).2.1⟩
def fieldsS (inner : B) : List S60 := if inner = [] then [] else (Lib.split inner [44]).map parseF
def getS (t : B) : ByteArray × List S60 × Bool :=
  if rightS (Lib.cut t [40]).1 (fieldsS (trimS (Lib.cut t [40]).2.1)) = 0 then (if putS (Lib.cut t [40]).1 (fieldsS (trimS (Lib.cut t [40]).2.1)) = t then (⟨(Lib.cut t [40]).1.toArray⟩, fieldsS (trimS (Lib.cut t [40]).2.1), true) else (⟨#[]⟩, [], false)) else (⟨#[]⟩, [], false)
theorem j2_ev (a n : ByteArray) (l : List S60) (h : ∀ x ∈ l, x.f0.size ≤ 9223372036854775807) :
    Ev (fun k => stream_Get.j2 k a n l) (if rightS n.data.toList l = 0 then (if putS n.data.toList l = a.data.toList then (n, l, true) else (⟨#[]⟩, [], false)) else (⟨#[]⟩, [], false)) := by
  refine Ev.step (f := fun k => _) (fun k => by rw [stream_Get.j2]) ?_
  refine Ev.bind (right_ev n l h) ?_
  by_cases h0 : rightS n.data.toList l = 0
  · rw [if_pos h0]
    refine Ev.pos h0 ?_
    have hs := putS_small h0
    refine Ev.bind (put_f n l (by have := (rightS_parts h0).2.1; omega) (by omega)) ?_
    by_cases h1 : putS n.data.toList l = a.data.toList
    · rw [if_pos h1]
      exact Ev.pos (by rw [tl, tl]; exact h1) (Ev.now _)
    · rw [if_neg h1]
      exact Ev.neg (by rw [tl, tl]; exact h1) (Ev.now _)
  · rw [if_neg h0]
    exact Ev.neg h0 (Ev.now _)
theorem trim_f (a : ByteArray) (h : a.size ≤ 4611686018427387904) : strings_TrimSuffix.f a ⟨#[41]⟩ = some ⟨(trimS a.data.toList).toArray⟩ := by
  have e1 : ((⟨#[41]⟩ : ByteArray).size : Int) = 1 := rfl
  have hsuf : stringslite_HasSuffix.f a ⟨#[41]⟩ = some (decide (a.data.toList.drop (a.data.toList.length - 1) = [41])) := by
    unfold stringslite_HasSuffix.f
    rw [e1]
    by_cases h0 : (a.size : Int) ≥ 1
    · have hw : wrap64 ((a.size : Int) - 1) = ((a.size - 1 : Nat) : Int) := by unfold wrap64; omega
      rw [if_pos h0, hw, if_pos (by omega), if_pos (by omega)]
      rw [Int.toNat_natCast, extract_drop, tl, dsize]
      have : ((⟨(a.data.toList.drop (a.size - 1)).toArray⟩ : ByteArray).data.toList == (⟨#[41]⟩ : ByteArray).toList) = decide (a.data.toList.drop (a.size - 1) = [41]) := by
        rw [tl, Bool.eq_iff_iff]; simp
      rw [this]
    · rw [if_neg h0]
      have : a.data.toList = [] := List.eq_nil_of_length_eq_zero (by rw [dsize]; omega)
      rw [this]
      rfl
  unfold strings_TrimSuffix.f stringslite_TrimSuffix.f trimS
  rw [hsuf, e1]
  simp only [Option.bind_some, decide_eq_true_eq]
  by_cases hd : a.data.toList.drop (a.data.toList.length - 1) = [41]
  · have h0 : 1 ≤ a.size := by
      rw [← dsize]
      rcases Nat.eq_zero_or_pos a.data.toList.length with e | e
      · rw [List.eq_nil_of_length_eq_zero e] at hd; simp at hd
      · exact e
    have hw : wrap64 ((a.size : Int) - 1) = ((a.size - 1 : Nat) : Int) := by unfold wrap64; omega
    rw [if_pos hd, if_pos hd, hw, if_pos (by omega), if_pos (by omega), Int.toNat_natCast]
    simp only [Option.bind_some]
    congr 1
    apply bext
    rw [Lib.extract_from_zero, dsize]
  · rw [if_neg hd, if_neg hd]
    rfl
theorem l1_ev (a n kd : ByteArray) (ps : List ByteArray) (i : Nat) (nm : ByteArray) (acc : List S60) (r : ByteArray × List S60 × Bool) (hacc : acc.length < 5864062014805) (hi : i < 9223372036854775807)
    (h : Ev (fun k => stream_Get.l0 k a ps (ps.length : Int) ((i + 1 : Nat) : Int) nm (acc ++ [⟨n, kindS kd.data.toList⟩])) r) :
    Ev (fun k => stream_Get.l1 k a n kd 1 ps (ps.length : Int) (i : Int) nm acc) r := by
  have w1 : wrap64 (1 + 1) = 2 := by unfold wrap64; decide
  have w2 : wrap64 (2 + 1) = 3 := by unfold wrap64; decide
  have w3 : wrap64 (3 + 1) = 4 := by unfold wrap64; decide
  have hw := wrap_nat i hi
  refine Ev.step (f := fun k => _) (fun k => by rw [stream_Get.l1]) ?_
  refine Ev.pos (by decide) (Ev.got (word_f 1) ?_)
  by_cases h1 : wordS 1 = kd.data.toList
  · refine Ev.pos (by rw [tl, tl]; exact h1) (Ev.pos hacc ?_)
    rw [hw]
    rw [show kindS kd.data.toList = 1 by unfold kindS; rw [if_pos h1]] at h
    exact h
  · refine Ev.neg (by rw [tl, tl]; exact h1) ?_
    rw [w1]
    refine Ev.step (f := fun k => _) (fun k => by rw [stream_Get.l1]) ?_
    refine Ev.pos (by decide) (Ev.got (word_f 2) ?_)
    by_cases h2 : wordS 2 = kd.data.toList
    · refine Ev.pos (by rw [tl, tl]; exact h2) (Ev.pos hacc ?_)
      rw [hw]
      rw [show kindS kd.data.toList = 2 by unfold kindS; rw [if_neg h1, if_pos h2]] at h
      exact h
    · refine Ev.neg (by rw [tl, tl]; exact h2) ?_
      rw [w2]
      refine Ev.step (f := fun k => _) (fun k => by rw [stream_Get.l1]) ?_
      refine Ev.pos (by decide) (Ev.got (word_f 3) ?_)
      by_cases h3 : wordS 3 = kd.data.toList
      · refine Ev.pos (by rw [tl, tl]; exact h3) (Ev.pos hacc ?_)
        rw [hw]
        rw [show kindS kd.data.toList = 3 by unfold kindS; rw [if_neg h1, if_neg h2, if_pos h3]] at h
        exact h
      · refine Ev.neg (by rw [tl, tl]; exact h3) ?_
        rw [w3]
        refine Ev.step (f := fun k => _) (fun k => by rw [stream_Get.l1]) ?_
        refine Ev.neg (by decide) (Ev.pos hacc ?_)
        rw [hw]
        rw [show kindS kd.data.toList = 4 by unfold kindS; rw [if_neg h1, if_neg h2, if_neg h3]] at h
        exact h
theorem cut_f (a : ByteArray) (c : B) (h : a.size < 4294967281) : strings_Cut.f a ⟨c.toArray⟩ = some (⟨(Lib.cut a.data.toList c).1.toArray⟩, ⟨(Lib.cut a.data.toList c).2.1.toArray⟩, (Lib.cut a.data.toList c).2.2) := by
  unfold strings_Cut.f; rw [if_pos h]
theorem cut_len (s c : B) : (Lib.cut s c).1.length ≤ s.length ∧ (Lib.cut s c).2.1.length ≤ s.length := by
  unfold Lib.cut
  split
  · simp only [List.length_take, List.length_drop]; omega
  · simp
theorem l0_ev (a nm : ByteArray) (ps : List B) (r : ByteArray × List S60 × Bool) (hps : ps.length < 5864062014805) (hsz : ∀ p ∈ ps, p.length < 4294967281)
    (h : Ev (fun k => stream_Get.j2 k a nm (ps.map parseF)) r) :
    Ev (fun k => stream_Get.l0 k a (ps.map fun p => ⟨p.toArray⟩) ((ps.map fun p => (⟨p.toArray⟩ : ByteArray)).length : Int) 0 nm []) r := by
  have key : ∀ (d i : Nat) (acc : List S60), i + d = ps.length → acc = (ps.take i).map parseF →
      Ev (fun k => stream_Get.l0 k a (ps.map fun p => ⟨p.toArray⟩) ((ps.map fun p => (⟨p.toArray⟩ : ByteArray)).length : Int) (i : Int) nm acc) r := by
    intro d
    induction d with
    | zero =>
      intro i acc hi hacc
      obtain rfl : i = ps.length := by omega
      rw [List.take_length] at hacc
      subst hacc
      refine Ev.step (f := fun k => _) (fun k => by rw [stream_Get.l0]) ?_
      exact Ev.neg (by simp) h
    | succ d ih =>
      intro i acc hi hacc
      have hlt : i < ps.length := by omega
      refine Ev.step (f := fun k => _) (fun k => by rw [stream_Get.l0]) ?_
      refine Ev.pos (by simp; omega) (Ev.pos (by omega) (Ev.pos (by simp; omega) ?_))
      have e : rdOf ByteArray.empty (ps.map fun p => (⟨p.toArray⟩ : ByteArray)) (i : Int) = ⟨ps[i].toArray⟩ := by
        simp [rdOf, hlt]
      rw [e]
      have hp := hsz _ (List.getElem_mem hlt)
      refine Ev.got (cut_f _ [58] (by rw [mk_size]; exact hp)) ?_
      refine l1_ev a _ _ _ i nm acc r (by rw [hacc]; simp; omega) (by omega) ?_
      refine ih (i + 1) _ (by omega) ?_
      rw [hacc, List.take_succ_eq_append_getElem hlt, List.map_append]
      rfl
  exact key ps.length 0 [] (by omega) (by simp)
theorem split_len (c : UInt8) : ∀ (n : Nat) (s : B), s.length ≤ n → (Lib.split s [c]).length ≤ s.length + 1 ∧ ∀ p ∈ Lib.split s [c], p.length ≤ s.length
  | n, s, hn => by
    by_cases h : c ∈ s
    · obtain ⟨a, r, e, hna⟩ := List.eq_append_cons_of_mem h
      subst e
      cases n with
      | zero => simp at hn
      | succ n =>
        have ih := split_len c n r (by simp at hn; omega)
        rw [split_hit c a r hna]
        refine ⟨by simp; omega, fun p hp => ?_⟩
        rcases List.mem_cons.1 hp with rfl | hp
        · simp
        · have := ih.2 p hp; simp; omega
    · rw [split_miss c s h]
      exact ⟨by simp, fun p hp => by simp at hp; subst hp; exact Nat.le_refl _⟩
theorem trimS_len (x : B) : (trimS x).length ≤ x.length := by
  unfold trimS; split
  · simp
  · exact Nat.le_refl _
theorem fieldsS_names (inner : B) (n : Nat) (h : inner.length ≤ n) : ∀ x ∈ fieldsS inner, x.f0.size ≤ n := by
  intro x hx
  unfold fieldsS at hx
  split at hx
  · simp at hx
  · obtain ⟨p, hp, rfl⟩ := List.mem_map.1 hx
    have h1 := (split_len 44 inner.length inner (Nat.le_refl _)).2 p hp
    have h2 := (cut_len p [58]).1
    unfold parseF
    rw [mk_size]
    omega
/-- Of any text (that is not too long) what is got. -/
theorem get_ev (a : ByteArray) (h : a.size ≤ 4000000) : Ev (fun k => stream_Get.f k a) (getS a.data.toList) := by
  unfold stream_Get.f
  refine Ev.got (cut_f a [40] (by omega)) ?_
  have hc := cut_len a.data.toList [40]
  rw [dsize] at hc
  have hi := trimS_len (Lib.cut a.data.toList [40]).2.1
  refine Ev.got (trim_f _ (by rw [mk_size]; omega)) ?_
  have hj : ∀ l : List S60, (∀ x ∈ l, x.f0.size ≤ 9223372036854775807) → l = fieldsS (trimS (Lib.cut a.data.toList [40]).2.1) → Ev (fun k => stream_Get.j2 k a ⟨(Lib.cut a.data.toList [40]).1.toArray⟩ l) (getS a.data.toList) := by
    intro l hl e
    subst e
    exact j2_ev a _ _ hl
  have hn := fieldsS_names (trimS (Lib.cut a.data.toList [40]).2.1) 9223372036854775807 (by omega)
  by_cases h0 : trimS (Lib.cut a.data.toList [40]).2.1 = []
  · refine Ev.pos (by rw [tl]; exact h0) (hj [] (by simp) ?_)
    rw [fieldsS, if_pos h0]
  · refine Ev.neg (by rw [tl]; exact h0) ?_
    have hs := split_len 44 _ (trimS (Lib.cut a.data.toList [40]).2.1) (Nat.le_refl _)
    have hsp : strings_Split.f ⟨(trimS (Lib.cut a.data.toList [40]).2.1).toArray⟩ ⟨#[44]⟩ = some ((Lib.split (trimS (Lib.cut a.data.toList [40]).2.1) [44]).map fun p => ⟨p.toArray⟩) := by
      unfold strings_Split.f
      rw [if_pos ⟨by rw [mk_size]; omega, by decide⟩]
    refine Ev.got hsp ?_
    refine l0_ev a _ _ _ (by omega) (fun p hp => by have := hs.2 p hp; omega) ?_
    refine hj _ ?_ (by rw [fieldsS, if_neg h0])
    rw [fieldsS, if_neg h0] at hn
    exact hn
/-! What is put is got -/
theorem no_sign {s : B} (h : isNm s = true) (c : UInt8) (hc : c ∉ signsN) : c ∉ s := fun hm => hc (isNm_sign h c hm)
theorem wordS_no (k : Int) (c : UInt8) (h : c ∉ ([105, 110, 116, 98, 111, 111, 108, 116, 101, 120, 116, 63] : B)) : c ∉ wordS k := by
  unfold wordS
  repeat' split
  all_goals (intro hm; apply h; simp only [List.mem_cons, List.not_mem_nil, or_false] at hm ⊢; rcases hm with rfl | hm <;> simp_all)
theorem kindS_word (k : Int) (h1 : 1 ≤ k) (h3 : k ≤ 3) : kindS (wordS k) = k := by
  rcases (by omega : k = 1 ∨ k = 2 ∨ k = 3) with rfl | rfl | rfl <;> decide
theorem parse_put (x : S60) (h : isNm x.f0.data.toList = true) (h1 : 1 ≤ x.f1) (h3 : x.f1 ≤ 3) : parseF (fput x) = x := by
  have hc : Lib.cut (fput x) [58] = (x.f0.data.toList, wordS x.f1, true) := by
    unfold fput
    rw [List.append_assoc]
    exact cut_hit 58 _ _ (no_sign h 58 (by decide))
  unfold parseF
  rw [hc]
  simp only [kindS_word _ h1 h3]
theorem trimS_put (x : B) : trimS (x ++ [41]) = x := by
  unfold trimS
  have e : (x ++ [41]).length - 1 = x.length := by simp
  rw [e]
  simp
theorem get_put {n : B} {l : List S60} (h : rightS n l = 0) : getS (putS n l) = (⟨n.toArray⟩, l, true) := by
  obtain ⟨hn, hl, hx⟩ := rightS_parts h
  have hc : Lib.cut (putS n l) [40] = (n, Lib.join (l.map fput) [44] ++ [41], true) := by
    unfold putS
    rw [List.append_assoc, List.append_assoc]
    exact cut_hit 40 _ _ (no_sign hn 40 (by decide))
  have hf : fieldsS (Lib.join (l.map fput) [44]) = l := by
    cases l with
    | nil => simp [fieldsS, Lib.join]
    | cons x r =>
      have hne : Lib.join ((x :: r).map fput) [44] ≠ [] := by
        intro e
        have := le_join [44] (fput x) ((x :: r).map fput) (by simp)
        rw [e] at this
        simp [fput] at this
      unfold fieldsS
      rw [if_neg hne, List.map_cons, split_join 44]
      · rw [← List.map_cons, List.map_map]
        have : ∀ y ∈ x :: r, (parseF ∘ fput) y = y := fun y hy => parse_put y (hx y hy).1 (hx y hy).2.1 (hx y hy).2.2
        conv => rhs; rw [← List.map_id (x :: r)]
        exact List.map_congr_left this
      · intro y hy
        rw [← List.map_cons] at hy
        obtain ⟨z, hz, rfl⟩ := List.mem_map.1 hy
        unfold fput
        have h1 := no_sign (hx z hz).1 44 (by decide)
        have h2 := wordS_no z.f1 44 (by decide)
        simp only [List.mem_append, List.mem_singleton]
        rintro ((h | h) | h)
        · exact h1 h
        · revert h; decide
        · exact h2 h
  unfold getS
  rw [hc]
  simp only [trimS_put, hf]
  rw [if_pos h, if_pos trivial]
theorem put_inj {n m : ByteArray} {l q : List S60} (h : rightS n.data.toList l = 0) (h' : rightS m.data.toList q = 0) (e : putS n.data.toList l = putS m.data.toList q) : n = m ∧ l = q := by
  have h1 := get_put h
  rw [e, get_put h'] at h1
  simp only [Prod.mk.injEq, and_true] at h1
  exact ⟨h1.1.symm, h1.2.symm⟩
/-! Are two the same -/
theorem S60_ext {x y : S60} (h0 : x.f0 = y.f0) (h1 : x.f1 = y.f1) : x = y := by
  cases x; cases y; simp_all
theorem fields_ev (l q : List S60) (hl : l.length = q.length) (hb : l.length < 9223372036854775807) : ∃ b, Ev (fun k => stream_Field.l0 k l q (l.length : Int) 0) b ∧ (b = true ↔ l = q) := by
  have key : ∀ (d i : Nat), i + d = l.length → ∃ b, Ev (fun k => stream_Field.l0 k l q (l.length : Int) (i : Int)) b ∧ (b = true ↔ l.drop i = q.drop i) := by
    intro d
    induction d with
    | zero =>
      intro i hi
      obtain rfl : i = l.length := by omega
      refine ⟨true, Ev.step (f := fun k => _) (fun k => by rw [stream_Field.l0]) (Ev.neg (by omega) (Ev.now _)), ?_⟩
      rw [List.drop_length, hl, List.drop_length]
      simp
    | succ d ih =>
      intro i hi
      have hlt : i < l.length := by omega
      have hlt' : i < q.length := by omega
      obtain ⟨b, hb1, hb2⟩ := ih (i + 1) (by omega)
      have el := List.drop_eq_getElem_cons hlt
      have eqq := List.drop_eq_getElem_cons hlt'
      by_cases hxy : l[i] = q[i]
      · refine ⟨b, Ev.step (f := fun k => _) (fun k => by rw [stream_Field.l0]) (Ev.pos (by omega) (Ev.pos (by omega) (Ev.pos (by omega) (Ev.pos (by omega) (Ev.neg ?_ ?_))))), ?_⟩
        · rw [rd_get l i hlt, rd_get q i hlt', hxy]; simp
        · rw [wrap_nat i (by omega)]; exact hb1
        · rw [el, eqq, hxy, hb2]; exact ⟨fun h => by rw [h], fun h => (List.cons.inj h).2⟩
      · refine ⟨false, Ev.step (f := fun k => _) (fun k => by rw [stream_Field.l0]) (Ev.pos (by omega) (Ev.pos (by omega) (Ev.pos (by omega) (Ev.pos (by omega) (Ev.pos ?_ (Ev.now _)))))), ?_⟩
        · rw [rd_get l i hlt, rd_get q i hlt', tl, tl]
          by_cases h0 : l[i].f0.data.toList = q[i].f0.data.toList
          · have h1 : l[i].f1 ≠ q[i].f1 := fun e => hxy (S60_ext (bext h0) e)
            simp [h1]
          · rw [beq_eq_false_iff_ne.mpr h0]; rfl
        · rw [el, eqq]; exact ⟨fun h => by simp at h, fun h => absurd (List.cons.inj h).1 hxy⟩
  obtain ⟨b, h1, h2⟩ := key l.length 0 (by omega)
  exact ⟨b, h1, by simpa using h2⟩
theorem same_ev (n m : ByteArray) (l q : List S60) (hb : l.length < 9223372036854775807) : ∃ b, Ev (fun k => stream_Same.f k n l m q) b ∧ (b = true ↔ n = m ∧ l = q) := by
  unfold stream_Same.f stream_Field.f
  by_cases h0 : n = m
  · by_cases h1 : l.length = q.length
    · obtain ⟨b, e, hbb⟩ := fields_ev l q h1 hb
      refine ⟨b, Ev.pos (by rw [h0]) (Ev.bind (Ev.pos (by omega) e) (Ev.now _)), ?_⟩
      rw [hbb]; simp [h0]
    · refine ⟨false, Ev.pos (by rw [h0]) (Ev.bind (Ev.neg (by omega) (Ev.now _)) (Ev.now _)), ?_⟩
      simp only [Bool.false_eq_true, false_iff, not_and]
      intro _ e
      exact h1 (by rw [e])
  · refine ⟨false, Ev.neg (fun e => h0 (bext (by rw [← tl, ← tl]; exact e))) (Ev.now _), ?_⟩
    simp [h0]
/-! Streams by bytes -/
def namesO : List ByteArray := [(⟨#[97]⟩ : ByteArray), (⟨#[98]⟩ : ByteArray), (⟨#[95, 99]⟩ : ByteArray), (⟨#[68, 100]⟩ : ByteArray), (⟨#[101, 53]⟩ : ByteArray), (⟨#[115, 116, 114, 105, 99, 116]⟩ : ByteArray), (⟨#[97, 98, 99, 100, 101, 102, 103, 104, 105, 106, 107, 108, 109, 110, 111, 112, 113, 114, 115, 116]⟩ : ByteArray), (⟨#[69, 77, 73, 84, 115]⟩ : ByteArray)]
def fieldsO : List ByteArray := [(⟨#[120]⟩ : ByteArray), (⟨#[121]⟩ : ByteArray), (⟨#[122]⟩ : ByteArray), (⟨#[107]⟩ : ByteArray), (⟨#[95]⟩ : ByteArray), (⟨#[98, 121]⟩ : ByteArray)]
def fsO (ks : List Int) : List S60 := List.zipWith (fun n k => ⟨n, 1 + k % 3⟩) fieldsO ks
def nmO (a : Int) : ByteArray := rdOf ByteArray.empty namesO (a % 8)
theorem wf_u8 {x : Int} (h : (Lit.int .u8 x).wf = true) : 0 ≤ x ∧ x ≤ 255 := by simpa [Lit.wf, IntKind.min, IntKind.max, IntKind.signed, IntKind.bits] using h
theorem fsO_take (l : List Int) (i : Nat) (h : i < l.length) (h6 : i < 6) : fsO (l.take (i + 1)) = fsO (l.take i) ++ [⟨rdOf ByteArray.empty fieldsO (i : Int), 1 + l[i] % 3⟩] := by
  unfold fsO
  rw [List.take_succ_eq_append_getElem h]
  have e : fieldsO = fieldsO.take i ++ (rdOf ByteArray.empty fieldsO (i : Int) :: fieldsO.drop (i + 1)) := by
    rcases (by omega : i = 0 ∨ i = 1 ∨ i = 2 ∨ i = 3 ∨ i = 4 ∨ i = 5) with rfl | rfl | rfl | rfl | rfl | rfl <;> rfl
  have hlen : (fieldsO.take i).length = (l.take i).length := by
    rw [List.length_take, List.length_take]
    have : fieldsO.length = 6 := rfl
    omega
  have h1 : ∀ f : ByteArray → Int → S60, List.zipWith f fieldsO (l.take i) = List.zipWith f (fieldsO.take i) (l.take i) := by
    intro f
    conv => lhs; rw [e]
    conv => lhs; rw [← List.append_nil (l.take i)]
    rw [List.zipWith_append hlen]
    simp
  rw [h1]
  conv => lhs; rw [e]
  rw [List.zipWith_append hlen]
  simp
theorem own_ev (a : Int) (l : List Int) (ha : 0 ≤ a) (hl : ∀ x ∈ l, 0 ≤ x ∧ x ≤ 255) (hm : l.length ≤ 9223372036854775807) : Ev (fun k => marshallinglaw03_own.f k a l) (nmO a, fsO (l.take 6)) := by
  have key : ∀ (d i : Nat) (acc : List S60), i + d = min l.length 6 → acc = fsO (l.take i) → Ev (fun k => marshallinglaw03_own.l0 k l (i : Int) (nmO a) acc) (nmO a, fsO (l.take 6)) := by
    intro d
    induction d with
    | zero =>
      intro i acc hi hacc
      have e : acc = fsO (l.take 6) := by
        rw [hacc]
        rcases Nat.lt_or_ge l.length 6 with h | h
        · rw [List.take_of_length_le (by omega), List.take_of_length_le (by omega)]
        · rw [show i = 6 by omega]
      subst e
      refine Ev.step (f := fun k => _) (fun k => by rw [marshallinglaw03_own.l0]) ?_
      by_cases h : (i : Int) < (l.length : Int)
      · exact Ev.pos h (Ev.neg (by omega) (Ev.now _))
      · exact Ev.neg h (Ev.now _)
    | succ d ih =>
      intro i acc hi hacc
      have m1 := Nat.min_le_left l.length 6
      have m2 := Nat.min_le_right l.length 6
      have hlt : i < l.length := by omega
      have h6 : i < 6 := by omega
      refine Ev.step (f := fun k => _) (fun k => by rw [marshallinglaw03_own.l0]) ?_
      refine Ev.pos (by omega) (Ev.pos (by omega) (Ev.got rfl (Ev.pos (by omega) (Ev.pos ?_ (Ev.pos ?_ ?_)))))
      · show (i : Int) < 6; omega
      · rw [hacc]; unfold fsO; rw [List.length_zipWith, List.length_take]; omega
      · have hx := hl _ (List.getElem_mem hlt)
        have er : rd l (i : Int) = l[i] := by simp [rd, hlt]
        have ew : wrap64 (1 + (wrap64 (Int.tmod (rd l (i : Int)) 3))) = 1 + l[i] % 3 := by
          rw [er, Int.tmod_eq_emod_of_nonneg hx.1]; unfold wrap64; omega
        rw [wrap_nat i (by omega), ew]
        refine ih (i + 1) _ (by omega) ?_
        rw [hacc, fsO_take l i hlt (by omega)]
        rfl
  unfold marshallinglaw03_own.f
  have e8 : Int.tmod a 8 = a % 8 := Int.tmod_eq_emod_of_nonneg ha
  rw [e8]
  refine Ev.got rfl (Ev.pos (by omega) (Ev.pos ?_ ?_))
  · show a % 8 < 8; omega
  · exact key (min l.length 6) 0 [] (by omega) rfl
theorem own_right (a : Int) (ks : List Int) (h6 : ks.length ≤ 6) : rightS (nmO a).data.toList (fsO ks) = 0 := by
  have h1 : isNm (nmO a).data.toList = true := by
    unfold nmO
    have h8 : 0 ≤ a % 8 ∧ a % 8 < 8 := by omega
    rcases (by omega : a % 8 = 0 ∨ a % 8 = 1 ∨ a % 8 = 2 ∨ a % 8 = 3 ∨ a % 8 = 4 ∨ a % 8 = 5 ∨ a % 8 = 6 ∨ a % 8 = 7) with e | e | e | e | e | e | e | e <;> rw [e] <;> decide +kernel
  have hn0 : isNm (⟨#[120]⟩ : ByteArray).data.toList = true := by decide +kernel
  have hn1 : isNm (⟨#[121]⟩ : ByteArray).data.toList = true := by decide +kernel
  have hn2 : isNm (⟨#[122]⟩ : ByteArray).data.toList = true := by decide +kernel
  have hn3 : isNm (⟨#[107]⟩ : ByteArray).data.toList = true := by decide +kernel
  have hn4 : isNm (⟨#[95]⟩ : ByteArray).data.toList = true := by decide +kernel
  have hn5 : isNm (⟨#[98, 121]⟩ : ByteArray).data.toList = true := by decide +kernel
  have hk : ∀ x : Int, ¬ (1 + x % 3 < 1) ∧ ¬ (1 + x % 3 > 3) := fun x => by omega
  unfold rightS
  rw [if_pos h1, if_neg (by unfold fsO; rw [List.length_zipWith]; omega)]
  unfold fsO fieldsO
  rcases ks with _ | ⟨k0, _ | ⟨k1, _ | ⟨k2, _ | ⟨k3, _ | ⟨k4, _ | ⟨k5, _ | ⟨k6, r⟩⟩⟩⟩⟩⟩⟩
  all_goals simp only [List.zipWith_nil_right, List.zipWith_cons_cons, List.zipWith_nil_left, goS, hn0, hn1, hn2, hn3, hn4, hn5, hk, if_true, if_false]
  all_goals first | rfl | simp
end Go.Proofs.YtcfdnicnjhilkaaDoor.SPJ
