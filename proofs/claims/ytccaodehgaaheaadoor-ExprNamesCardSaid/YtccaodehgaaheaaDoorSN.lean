/- Names in plain Lean: what IsName computes (for the texts of tag G). -/
import Derived.Test.YtccaodehgaaheaaDoorP4
import Derived.Lib.Split
namespace Go.Proofs.YtccaodehgaaheaaDoor.SN
set_option linter.unusedVariables false
set_option linter.unusedSimpArgs false
open Go.RowKit Go.Proofs.YtccaodehgaaheaaDoor.P Go.Proofs.YtccaodehgaaheaaDoorW.PrintWords
/-! Rounds: from some number on. -/
theorem Ev.pos {α : Type} {c : Prop} [Decidable c] {A B : Nat → Option α} {r : α} (hc : c) (h : Ev A r) : Ev (fun k => if c then A k else B k) r := Ev.congr (fun k => if_pos hc) h
theorem Ev.neg {α : Type} {c : Prop} [Decidable c] {A B : Nat → Option α} {r : α} (hc : ¬ c) (h : Ev B r) : Ev (fun k => if c then A k else B k) r := Ev.congr (fun k => if_neg hc) h
theorem Ev.got {α β : Type} {x : Option α} {a : α} {f : Nat → α → Option β} {r : β} (hx : x = some a) (h : Ev (fun k => f k a) r) : Ev (fun k => x.bind (f k)) r := by subst hx; exact h
theorem Ev.ret {α : Type} {x : Option α} {r : α} (hx : x = some r) : Ev (fun _ => x) r := by subst hx; exact Ev.now r
/-! Bytes and texts -/
abbrev B := List UInt8
theorem bs_eq (a : ByteArray) : (⟨a.data.toList.toArray⟩ : ByteArray) = a := rfl
theorem tl (a : ByteArray) : a.toList = a.data.toList := ByteArray.toList_eq a
theorem bext {a b : ByteArray} (h : a.data.toList = b.data.toList) : a = b := Go.WideShapes.bytes_inj h
theorem dsize (a : ByteArray) : a.data.toList.length = a.size := by rw [Array.length_toList]; rfl
/-! One byte's place in a text -/
theorem index_hit (c : UInt8) : ∀ (a r : B), c ∉ a → Lib.index (a ++ c :: r) [c] = a.length
  | [], r, _ => by simp [Lib.index, List.isPrefixOf]
  | b :: a, r, h => by
    have hb : c ≠ b := fun e => h (by simp [e])
    have ih := index_hit c a r (fun e => h (by simp [e]))
    simp only [List.cons_append, Lib.index, List.isPrefixOf, ih]
    have : (c == b) = false := by simpa using hb
    simp only [this, Bool.false_and, Bool.false_eq_true, if_false]
    rw [if_neg (by simp)]
    simp
theorem index_miss (c : UInt8) : ∀ (a : B), c ∉ a → Lib.index a [c] = -1
  | [], _ => by simp [Lib.index]
  | b :: a, h => by
    have hb : c ≠ b := fun e => h (by simp [e])
    have ih := index_miss c a (fun e => h (by simp [e]))
    have : (c == b) = false := by simpa using hb
    simp [Lib.index, List.isPrefixOf, ih, this]
theorem contains_byte (c : UInt8) (s : B) : Lib.contains s [c] = s.contains c := by
  by_cases h : c ∈ s
  · obtain ⟨a, r, e, hn⟩ := List.append_of_mem h |> fun _ => (by
      obtain ⟨a, r, e⟩ := List.append_of_mem h
      have := List.mem_iff_append.1 h
      exact (List.eq_append_cons_of_mem h) : ∃ a r, s = a ++ c :: r ∧ c ∉ a)
    rw [show s.contains c = true from List.contains_iff_mem.2 h, Lib.contains, e, index_hit c a r hn]
    simp
  · rw [Lib.contains, index_miss c s h]
    simp [h]
theorem cut_hit (c : UInt8) (a r : B) (h : c ∉ a) : Lib.cut (a ++ c :: r) [c] = (a, r, true) := by
  rw [Lib.cut, index_hit c a r h, if_pos (by omega)]
  simp
theorem split_hit (c : UInt8) (a r : B) (h : c ∉ a) : Lib.split (a ++ c :: r) [c] = a :: Lib.split r [c] := by
  have hc := Lib.count_hit (s := a ++ c :: r) (sub := [c]) (by simp) (index_hit c a r h)
  have hd : (a ++ c :: r).drop (a.length + 1) = r := by simp
  simp only [List.length_singleton, hd] at hc
  unfold Lib.split
  rw [hc, Nat.add_comm, Lib.splitK, index_hit c a r h]
  rw [if_neg (by simp)]
  simp
theorem split_miss (c : UInt8) (a : B) (h : c ∉ a) : Lib.split a [c] = [a] := by
  unfold Lib.split
  rw [Lib.count_miss (index_miss c a h)]
  rfl
def letters : B := [97, 98, 99, 100, 101, 102, 103, 104, 105, 106, 107, 108, 109, 110, 111, 112, 113, 114, 115, 116, 117, 118, 119, 120, 121, 122, 65, 66, 67, 68, 69, 70, 71, 72, 73, 74, 75, 76, 77, 78, 79, 80, 81, 82, 83, 84, 85, 86, 87, 88, 89, 90, 95]
def signsN : B := letters ++ [48, 49, 50, 51, 52, 53, 54, 55, 56, 57]
def keysN : List B := [[83, 84, 82, 73, 67, 84], [87, 73, 84, 72, 73, 78], [66, 89], [69, 77, 73, 84], [116, 114, 117, 101], [102, 97, 108, 115, 101]]
def headLetter : B → Bool
  | [] => false
  | b :: _ => letters.contains b
def isNm (s : B) : Bool := !keysN.contains s && (decide (s.length ≤ 20) && (s.all signsN.contains && headLetter s))
theorem dropWhile_nil (p : UInt8 → Bool) (l : B) : (l.dropWhile p = []) ↔ l.all p = true := by
  induction l with
  | nil => simp
  | cons b l ih =>
    by_cases h : p b = true
    · rw [List.dropWhile_cons_of_pos h, ih]; simp [h]
    · rw [List.dropWhile_cons_of_neg h]; simp [h]
theorem isName_j0 (k : Nat) (a : ByteArray) (b : Bool) : stream_IsName.j0 (k + 1) a b = some (!b && (decide (a.data.toList.length ≤ 20) && (a.data.toList.all signsN.contains && headLetter a.data.toList))) := by
  cases b with
  | true => simp [stream_IsName.j0]
  | false =>
    simp only [stream_IsName.j0]
    rw [if_neg (by decide), if_pos (by decide)]
    have hc : stream_cutLeft.f a ((⟨#[97, 98, 99, 100, 101, 102, 103, 104, 105, 106, 107, 108, 109, 110, 111, 112, 113, 114, 115, 116, 117, 118, 119, 120, 121, 122, 65, 66, 67, 68, 69, 70, 71, 72, 73, 74, 75, 76, 77, 78, 79, 80, 81, 82, 83, 84, 85, 86, 87, 88, 89, 90, 95]⟩ : ByteArray) ++ (⟨#[48, 49, 50, 51, 52, 53, 54, 55, 56, 57]⟩ : ByteArray)) = some ⟨(a.data.toList.dropWhile signsN.contains).toArray⟩ := by
      unfold stream_cutLeft.f
      rw [if_pos (by decide +kernel)]
      rfl
    rw [hc]
    simp only [Option.bind_some, tl]
    by_cases h0 : a.data.toList = []
    · rw [if_pos h0, h0]; simp [headLetter]
    · rw [if_neg h0]
      by_cases h20 : (a.size : Int) ≤ 20
      · rw [if_pos h20]
        have h20' : a.data.toList.length ≤ 20 := by rw [dsize]; omega
        by_cases hd : a.data.toList.dropWhile signsN.contains = []
        · have hall := (dropWhile_nil _ _).1 hd
          have h1 : (1 : Int) ≤ (a.size : Int) := by
            have : a.data.toList.length ≠ 0 := fun e => h0 (List.eq_nil_of_length_eq_zero e)
            rw [dsize] at this
            omega
          rw [if_pos hd, if_pos (by decide), if_pos h1]
          have hcon : strings_Contains.f (⟨#[97, 98, 99, 100, 101, 102, 103, 104, 105, 106, 107, 108, 109, 110, 111, 112, 113, 114, 115, 116, 117, 118, 119, 120, 121, 122, 65, 66, 67, 68, 69, 70, 71, 72, 73, 74, 75, 76, 77, 78, 79, 80, 81, 82, 83, 84, 85, 86, 87, 88, 89, 90, 95]⟩ : ByteArray) (a.extract 0 1) = some (headLetter a.data.toList) := by
            unfold strings_Contains.f
            rw [if_pos (by decide), Lib.extract_from_zero]
            cases hs : a.data.toList with
            | nil => exact absurd hs h0
            | cons b r => exact congrArg some (contains_byte b letters)
          rw [hcon, show decide (a.data.toList.length ≤ 20) = true from decide_eq_true h20', hall]
          rfl
        · have hall : a.data.toList.all signsN.contains = false := by
            rw [Bool.eq_false_iff]
            exact fun e => hd ((dropWhile_nil _ _).2 e)
          rw [if_neg hd]
          simp [hall]
      · rw [if_neg h20]
        have h20' : ¬ a.data.toList.length ≤ 20 := by rw [dsize]; omega
        rw [show decide (a.data.toList.length ≤ 20) = false from decide_eq_false h20']
        rfl
theorem isName_f (k : Nat) (a : ByteArray) : stream_IsName.f (k + 1) a = some (isNm a.data.toList) := by
  unfold stream_IsName.f isNm keysN
  simp only [isName_j0, tl]
  repeat' split
  all_goals first | (simp_all [List.contains_cons]; done) | (by_cases h6 : a.data.toList = [102, 97, 108, 115, 101] <;> simp_all [List.contains_cons])
end Go.Proofs.YtccaodehgaaheaaDoor.SN
