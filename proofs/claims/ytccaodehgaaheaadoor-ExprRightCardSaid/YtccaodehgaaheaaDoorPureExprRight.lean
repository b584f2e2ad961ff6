/- The plain law of ExprRight: names in plain Lean, the chapter's examples, what is made by bytes, and that what is turned where it must not be is not right, nor is anything above it. -/
import Derived.Test.YtccaodehgaaheaaDoorR4
import Derived.Lib.Split
import Derived.Test.YtccaodehgaaheaaDoorR14
import Derived.Test.YtccaodehgaaheaaDoorFd9
import Derived.Test.YtccaodehgaaheaaDoorR17
namespace Go.Proofs.YtccaodehgaaheaaDoor.SN
set_option linter.unusedVariables false
set_option linter.unusedSimpArgs false
open Go.RowKit Go.Proofs.YtccaodehgaaheaaDoor.R Go.Proofs.YtccaodehgaaheaaDoorW.PrintWords
/-! Rounds: from some number on. -/
theorem Ev.pos {α : Type} {c : Prop} [Decidable c] {A B : Nat → Option α} {r : α} (hc : c) (h : Ev A r) : Ev (fun k => if c then A k else B k) r := Ev.congr (fun k => if_pos hc) h
theorem Ev.neg {α : Type} {c : Prop} [Decidable c] {A B : Nat → Option α} {r : α} (hc : ¬ c) (h : Ev B r) : Ev (fun k => if c then A k else B k) r := Ev.congr (fun k => if_neg hc) h
theorem Ev.got {α β : Type} {x : Option α} {a : α} {f : Nat → α → Option β} {r : β} (hx : x = some a) (h : Ev (fun k => f k a) r) : Ev (fun k => x.bind (f k)) r := by subst hx; exact h
theorem Ev.ret {α : Type} {x : Option α} {r : α} (hx : x = some r) : Ev (fun _ => x) r := by subst hx; exact Ev.now r
/-! Bytes and texts -/
abbrev B := List UInt8
theorem bs_eq (a : ByteArray) : (⟨a.data.toList.toArray⟩ : ByteArray) = a := rfl
theorem tl (a : ByteArray) : a.toList = a.data.toList := ByteArray.toList_eq a
theorem bext {a b : ByteArray} (h : a.data.toList = b.data.toList) : a = b := Go.WideShapes.bytes_inj h
theorem dsize (a : ByteArray) : a.data.toList.length = a.size := by rw [Array.length_toList]; rfl
/-! One byte's place in a text -/
theorem index_hit (c : UInt8) : ∀ (a r : B), c ∉ a → Lib.index (a ++ c :: r) [c] = a.length
  | [], r, _ => by simp [Lib.index, List.isPrefixOf]
  | b :: a, r, h => by
    have hb : c ≠ b := fun e => h (by simp [e])
    have ih := index_hit c a r (fun e => h (by simp [e]))
    simp only [List.cons_append, Lib.index, List.isPrefixOf, ih]
    have : (c == b) = false := by simpa using hb
    simp only [this, Bool.false_and, Bool.false_eq_true, if_false]
    rw [if_neg (by simp)]
    simp
theorem index_miss (c : UInt8) : ∀ (a : B), c ∉ a → Lib.index a [c] = -1
  | [], _ => by simp [Lib.index]
  | b :: a, h => by
    have hb : c ≠ b := fun e => h (by simp [e])
    have ih := index_miss c a (fun e => h (by simp [e]))
    have : (c == b) = false := by simpa using hb
    simp [Lib.index, List.isPrefixOf, ih, this]
theorem contains_byte (c : UInt8) (s : B) : Lib.contains s [c] = s.contains c := by
  by_cases h : c ∈ s
  · obtain ⟨a, r, e, hn⟩ := List.append_of_mem h |> fun _ => (by
      obtain ⟨a, r, e⟩ := List.append_of_mem h
      have := List.mem_iff_append.1 h
      exact (List.eq_append_cons_of_mem h) : ∃ a r, s = a ++ c :: r ∧ c ∉ a)
    rw [show s.contains c = true from List.contains_iff_mem.2 h, Lib.contains, e, index_hit c a r hn]
    simp
  · rw [Lib.contains, index_miss c s h]
    simp [h]
theorem cut_hit (c : UInt8) (a r : B) (h : c ∉ a) : Lib.cut (a ++ c :: r) [c] = (a, r, true) := by
  rw [Lib.cut, index_hit c a r h, if_pos (by omega)]
  simp
theorem split_hit (c : UInt8) (a r : B) (h : c ∉ a) : Lib.split (a ++ c :: r) [c] = a :: Lib.split r [c] := by
  have hc := Lib.count_hit (s := a ++ c :: r) (sub := [c]) (by simp) (index_hit c a r h)
  have hd : (a ++ c :: r).drop (a.length + 1) = r := by simp
  simp only [List.length_singleton, hd] at hc
  unfold Lib.split
  rw [hc, Nat.add_comm, Lib.splitK, index_hit c a r h]
  rw [if_neg (by simp)]
  simp
theorem split_miss (c : UInt8) (a : B) (h : c ∉ a) : Lib.split a [c] = [a] := by
  unfold Lib.split
  rw [Lib.count_miss (index_miss c a h)]
  rfl
def letters : B := [97, 98, 99, 100, 101, 102, 103, 104, 105, 106, 107, 108, 109, 110, 111, 112, 113, 114, 115, 116, 117, 118, 119, 120, 121, 122, 65, 66, 67, 68, 69, 70, 71, 72, 73, 74, 75, 76, 77, 78, 79, 80, 81, 82, 83, 84, 85, 86, 87, 88, 89, 90, 95]
def signsN : B := letters ++ [48, 49, 50, 51, 52, 53, 54, 55, 56, 57]
def keysN : List B := [[83, 84, 82, 73, 67, 84], [87, 73, 84, 72, 73, 78], [66, 89], [69, 77, 73, 84], [116, 114, 117, 101], [102, 97, 108, 115, 101]]
def headLetter : B → Bool
  | [] => false
  | b :: _ => letters.contains b
def isNm (s : B) : Bool := !keysN.contains s && (decide (s.length ≤ 20) && (s.all signsN.contains && headLetter s))
theorem dropWhile_nil (p : UInt8 → Bool) (l : B) : (l.dropWhile p = []) ↔ l.all p = true := by
  induction l with
  | nil => simp
  | cons b l ih =>
    by_cases h : p b = true
    · rw [List.dropWhile_cons_of_pos h, ih]; simp [h]
    · rw [List.dropWhile_cons_of_neg h]; simp [h]
theorem isName_j0 (k : Nat) (a : ByteArray) (b : Bool) : stream_IsName.j0 (k + 1) a b = some (!b && (decide (a.data.toList.length ≤ 20) && (a.data.toList.all signsN.contains && headLetter a.data.toList))) := by
  cases b with
  | true => simp [stream_IsName.j0]
  | false =>
    simp only [stream_IsName.j0]
    rw [if_neg (by decide), if_pos (by decide)]
    have hc : stream_cutLeft.f a ((⟨#[97, 98, 99, 100, 101, 102, 103, 104, 105, 106, 107, 108, 109, 110, 111, 112, 113, 114, 115, 116, 117, 118, 119, 120, 121, 122, 65, 66, 67, 68, 69, 70, 71, 72, 73, 74, 75, 76, 77, 78, 79, 80, 81, 82, 83, 84, 85, 86, 87, 88, 89, 90, 95]⟩ : ByteArray) ++ (⟨#[48, 49, 50, 51, 52, 53, 54, 55, 56, 57]⟩ : ByteArray)) = some ⟨(a.data.toList.dropWhile signsN.contains).toArray⟩ := by
      unfold stream_cutLeft.f
      rw [if_pos (by decide +kernel)]
      rfl
    rw [hc]
    simp only [Option.bind_some, tl]
    by_cases h0 : a.data.toList = []
    · rw [if_pos h0, h0]; simp [headLetter]
    · rw [if_neg h0]
      by_cases h20 : (a.size : Int) ≤ 20
      · rw [if_pos h20]
        have h20' : a.data.toList.length ≤ 20 := by rw [dsize]; omega
        by_cases hd : a.data.toList.dropWhile signsN.contains = []
        · have hall := (dropWhile_nil _ _).1 hd
          have h1 : (1 : Int) ≤ (a.size : Int) := by
            have : a.data.toList.length ≠ 0 := fun e => h0 (List.eq_nil_of_length_eq_zero e)
            rw [dsize] at this
            omega
          rw [if_pos hd, if_pos (by decide), if_pos h1]
          have hcon : strings_Contains.f (⟨#[97, 98, 99, 100, 101, 102, 103, 104, 105, 106, 107, 108, 109, 110, 111, 112, 113, 114, 115, 116, 117, 118, 119, 120, 121, 122, 65, 66, 67, 68, 69, 70, 71, 72, 73, 74, 75, 76, 77, 78, 79, 80, 81, 82, 83, 84, 85, 86, 87, 88, 89, 90, 95]⟩ : ByteArray) (a.extract 0 1) = some (headLetter a.data.toList) := by
            unfold strings_Contains.f
            rw [if_pos (by decide), Lib.extract_from_zero]
            cases hs : a.data.toList with
            | nil => exact absurd hs h0
            | cons b r => exact congrArg some (contains_byte b letters)
          rw [hcon, show decide (a.data.toList.length ≤ 20) = true from decide_eq_true h20', hall]
          rfl
        · have hall : a.data.toList.all signsN.contains = false := by
            rw [Bool.eq_false_iff]
            exact fun e => hd ((dropWhile_nil _ _).2 e)
          rw [if_neg hd]
          simp [hall]
      · rw [if_neg h20]
        have h20' : ¬ a.data.toList.length ≤ 20 := by rw [dsize]; omega
        rw [show decide (a.data.toList.length ≤ 20) = false from decide_eq_false h20']
        rfl
theorem isName_f (k : Nat) (a : ByteArray) : stream_IsName.f (k + 1) a = some (isNm a.data.toList) := by
  unfold stream_IsName.f isNm keysN
  simp only [isName_j0, tl]
  repeat' split
  all_goals first | (simp_all [List.contains_cons]; done) | (by_cases h6 : a.data.toList = [102, 97, 108, 115, 101] <;> simp_all [List.contains_cons])
end Go.Proofs.YtccaodehgaaheaaDoor.SN

namespace Go.Proofs.YtccaodehgaaheaaDoor.Pure
open Go.RowKit Go.Proofs.YtccaodehgaaheaaDoor Go.Proofs.YtccaodehgaaheaaDoor.R Go.Proofs.YtccaodehgaaheaaDoorW.PrintWords
theorem sort_ab : sortS [(⟨#[97]⟩ : ByteArray), (⟨#[98]⟩ : ByteArray)] = [⟨#[97]⟩, ⟨#[98]⟩] := by
  have h : ([97] : List UInt8) ≤ [98] := by decide
  simp only [sortS, texts, bytesL, List.map_cons, List.map_nil]
  rw [show ([[97], [98]] : List (List UInt8)).mergeSort (fun x y => decide (x ≤ y)) = [[97], [98]] from by simp [List.mergeSort, h]]
  rfl
set_option maxRecDepth 100000 in
theorem vars_e : expr_Vars.f 60 4 (⟨#[45]⟩ : ByteArray) 0 0 (⟨#[]⟩ : ByteArray) (⟨#[]⟩ : ByteArray) (⟨#[]⟩ : ByteArray) [(⟨1, ⟨#[]⟩, (⟨0, 0, ⟨#[]⟩⟩ : S23), ⟨#[97]⟩, ⟨#[120]⟩, []⟩ : S26), (⟨4, ⟨#[45]⟩, (⟨0, 0, ⟨#[]⟩⟩ : S23), ⟨#[]⟩, ⟨#[]⟩, [(⟨2, ⟨#[]⟩, (⟨0, 0, ⟨#[]⟩⟩ : S23), ⟨#[98]⟩, ⟨#[]⟩, []⟩ : S26), (⟨0, ⟨#[]⟩, (⟨1, 1, ⟨#[]⟩⟩ : S23), ⟨#[]⟩, ⟨#[]⟩, []⟩ : S26)]⟩ : S26)] = some [⟨#[97]⟩, ⟨#[98]⟩] := by
  have h : expr_Vars.f 60 4 (⟨#[45]⟩ : ByteArray) 0 0 (⟨#[]⟩ : ByteArray) (⟨#[]⟩ : ByteArray) (⟨#[]⟩ : ByteArray) [(⟨1, ⟨#[]⟩, (⟨0, 0, ⟨#[]⟩⟩ : S23), ⟨#[97]⟩, ⟨#[120]⟩, []⟩ : S26), (⟨4, ⟨#[45]⟩, (⟨0, 0, ⟨#[]⟩⟩ : S23), ⟨#[]⟩, ⟨#[]⟩, [(⟨2, ⟨#[]⟩, (⟨0, 0, ⟨#[]⟩⟩ : S23), ⟨#[98]⟩, ⟨#[]⟩, []⟩ : S26), (⟨0, ⟨#[]⟩, (⟨1, 1, ⟨#[]⟩⟩ : S23), ⟨#[]⟩, ⟨#[]⟩, []⟩ : S26)]⟩ : S26)] = some (compactS (sortS [⟨#[97]⟩, ⟨#[98]⟩])) := by kernel_rfl
  have c : compactS [(⟨#[97]⟩ : ByteArray), (⟨#[98]⟩ : ByteArray)] = [⟨#[97]⟩, ⟨#[98]⟩] := by kernel_rfl
  rw [h, sort_ab, c]
set_option maxRecDepth 100000 in
theorem ex60 : marshallinglaw07_examples.f 60 = some true := by
  unfold marshallinglaw07_examples.f
  simp only [marshallinglaw07_lit.f, marshallinglaw07_two.f, Option.bind_some]
  rw [vars_e]
  kernel_rfl
end Go.Proofs.YtccaodehgaaheaaDoor.Pure

namespace Go.Proofs.YtccaodehgaaheaaDoor.Pure
open Go.RowKit Go.Proofs.YtccaodehgaaheaaDoor Go.Proofs.YtccaodehgaaheaaDoor.R Go.Proofs.YtccaodehgaaheaaDoor.SN Go.Proofs.YtccaodehgaaheaaDoorW.PrintWords
set_option linter.unusedVariables false
set_option linter.unusedSimpArgs false
abbrev E := S26
def Hd (k : Nat) (x : E) : Option Bool := expr_Expr_head.f k x.f0 x.f1 x.f2.f0 x.f2.f1 x.f2.f2 x.f3 x.f4 x.f5
def Rt (k : Nat) (x : E) : Option Bool := expr_Right.f k x.f0 x.f1 x.f2.f0 x.f2.f1 x.f2.f2 x.f3 x.f4 x.f5
theorem rt_step (k : Nat) (x : E) : Rt (k + 1) x = (Hd k x).bind fun b => if b = true then allO (fun y => Rt k y) x.f5 else some false := rfl
theorem e0 : ((⟨#[]⟩ : ByteArray).toList == ([] : List UInt8)) = true := by rw [Lib.toList_data]; rfl
def LitOk (v : S23) : Prop := value_Right.f v.f0 v.f1 v.f2 = some true ∧ 0 ≤ v.f1 ∧ strings_Contains.f v.f2 (⟨#[39]⟩ : ByteArray) = some false
/-- The shapes of what is made, and what holds of the head of each. -/
inductive Sh : E → Prop
  | lit (v : S23) (h : LitOk v) : Sh (litE v)
  | ref (x y : ByteArray) (hx : isNm x.data.toList = true) (hy : isNm y.data.toList = true) : Sh (refE x y)
  | cnt (x : ByteArray) (hx : isNm x.data.toList = true) : Sh (cntE x)
  | un (o : ByteArray) (x : E) (ho : (o.toList == ([45] : List UInt8) || o.toList == ([33] : List UInt8)) = true) : Sh (unE o x)
  | bin (o : ByteArray) (x y : E) (n : Int) (ho : ∀ k, expr_Level.f (k + 3) o = some n) (hn : n ≠ 0) : Sh (binE o x y)
theorem level_up {o : ByteArray} {n : Int} (h : expr_Level.f 3 o = some n) : ∀ k, expr_Level.f (k + 3) o = some n
  | 0 => h
  | k + 1 => expr_Level.mono _ _ _ (level_up h k)
theorem sh_head {x : E} (h : Sh x) (k : Nat) : Hd (k + 3) x = some true := by
  cases h with
  | lit v h =>
    unfold Hd litE expr_Expr_head.f
    dsimp only
    simp only [if_true, h.1, Option.bind_some, h.2.2, e0, List.length_nil]
    rw [if_neg (Int.not_lt.2 h.2.1)]
    rfl
  | ref x y hx hy =>
    unfold Hd refE expr_Expr_head.f
    dsimp only
    rw [if_neg (by decide), if_pos rfl, isName_f, hx]
    simp only [Option.bind_some, if_true, isName_f, hy, e0]
    rfl
  | cnt x hx =>
    unfold Hd cntE expr_Expr_head.f
    dsimp only
    rw [if_neg (by decide), if_neg (by decide), if_pos rfl, isName_f, hx]
    simp only [Option.bind_some, if_true, e0]
    rfl
  | un o x ho =>
    unfold Hd unE expr_Expr_head.f
    dsimp only
    rw [if_neg (by decide), if_neg (by decide), if_neg (by decide), if_pos rfl]
    simp only [ho, if_true, e0]
    rfl
  | bin o x y n ho hn =>
    unfold Hd binE expr_Expr_head.f
    dsimp only
    rw [if_neg (by decide), if_neg (by decide), if_neg (by decide), if_neg (by decide), if_pos rfl]
    simp only [ho, Option.bind_some]
    rw [if_neg (by simpa using hn)]
    simp only [e0]
    rfl
/-- Right, to a depth. -/
def Good : Nat → E → Prop
  | 0, x => Sh x ∧ x.f5 = []
  | n + 1, x => Sh x ∧ ∀ y ∈ x.f5, Good n y
theorem Good.sh {n : Nat} {x : E} (h : Good n x) : Sh x := by cases n <;> exact h.1
theorem Good.up : ∀ {n : Nat} {x : E}, Good n x → Good (n + 1) x
  | 0, x, h => ⟨h.1, fun y hy => by rw [h.2] at hy; cases hy⟩
  | n + 1, x, h => ⟨h.1, fun y hy => (h.2 y hy).up⟩
theorem Good.le {x : E} (h : Good 0 x) : ∀ n, Good n x
  | 0 => h
  | n + 1 => (Good.le h n).up
theorem allO_all {α : Type} {f : α → Option Bool} : ∀ {l : List α}, (∀ y ∈ l, f y = some true) → allO f l = some true
  | [], _ => rfl
  | x :: r, h => by
    unfold allO
    rw [h x (by simp), Option.bind_some, if_pos rfl]
    exact allO_all (fun y hy => h y (by simp [hy]))
theorem good_right : ∀ (n : Nat) {x : E}, Good n x → ∀ k, Rt (k + 4 + n) x = some true
  | 0, x, h, k => by
    show Rt ((k + 3) + 1) x = some true
    rw [rt_step, sh_head h.1, Option.bind_some, if_pos rfl, h.2]
    rfl
  | n + 1, x, h, k => by
    show Rt ((k + 4 + n) + 1) x = some true
    rw [rt_step, show k + 4 + n = (k + 1 + n) + 3 from by omega, sh_head h.1, Option.bind_some, if_pos rfl]
    refine allO_all (fun y hy => ?_)
    have := good_right n (h.2 y hy) k
    rwa [show k + 4 + n = (k + 1 + n) + 3 from by omega] at this
/-! ### the parts -/
def SlotOk (s : Slot) : Prop := isNm s.f0.data.toList = true ∧ ∀ y ∈ s.f1, isNm y.data.toList = true
theorem rd_in {α : Type} (d : α) (l : List α) (i : Int) (h0 : 0 ≤ i) (h1 : i < l.length) : l.getD i.toNat d ∈ l := by
  have h : i.toNat < l.length := by omega
  rw [List.getD_eq_getElem?_getD, List.getElem?_eq_getElem h]
  exact List.getElem_mem h
theorem tmod_in (a : Int) (n : Nat) (ha : 0 ≤ a) (hn : 0 < n) : 0 ≤ Int.tmod a n ∧ Int.tmod a n < n := ⟨Int.tmod_nonneg _ ha, Int.tmod_lt_of_pos _ (by omega)⟩
theorem pick_mem {b : Int} {fields : ByteArray} {L : List Slot} {p : ByteArray × ByteArray} (hb : 0 ≤ b) (h : pick b fields L = some p) : ∃ s ∈ L, p.1 = s.f0 ∧ p.2 ∈ s.f1 := by
  obtain ⟨i, hi, h1⟩ := seekN_some h
  unfold pickI at h1
  obtain ⟨m, h2, rfl⟩ := Option.map_eq_some_iff.1 h1
  obtain ⟨k, hk, h3⟩ := seekN_some h2
  unfold pickF at h3
  obtain ⟨_, h4, rfl⟩ := Option.map_eq_some_iff.1 h3
  have t1 := tmod_in (b + i) L.length (by omega) (by omega)
  have hd : 0 ≤ Int.tdiv b 8 := Int.tdiv_nonneg hb (by decide)
  have t2 := tmod_in (Int.tdiv b 8 + k) (rdSlot L (Int.tmod (b + i) L.length)).f1.length (by omega) (by omega)
  exact ⟨_, rd_in zSlot L _ t1.1 t1.2, rfl, rd_in ByteArray.empty _ _ t2.1 t2.2⟩
theorem good_of {l : List Int} {a : Int} (hf : Fed l a) (vars : List Slot) (own : Slot) (fields : ByteArray) (other : S23) (hs : ∀ s ∈ vars ++ [own], SlotOk s) (ho : LitOk other) : Good 0 (ofF l a vars own fields other).1 := by
  unfold ofF
  simp only
  split
  · rename_i p hp
    obtain ⟨s, hm, h1, h2⟩ := pick_mem hf.byte.1 hp
    exact ⟨.ref _ _ (h1 ▸ (hs s hm).1) ((hs s hm).2 _ h2), rfl⟩
  · exact ⟨.lit _ ho, rfl⟩
theorem lit_int (n : Int) (h : 0 ≤ n) : LitOk ⟨1, n, ⟨#[]⟩⟩ := ⟨by unfold value_Right.f; rw [if_pos rfl, e0]; rfl, h, by kernel_rfl⟩
theorem nums_lo (j : Int) : 0 ≤ rd numsL j := by
  unfold rd
  rcases Nat.lt_or_ge j.toNat numsL.length with h | h
  · rw [List.getD_eq_getElem?_getD, List.getElem?_eq_getElem h]
    have : ∀ x ∈ numsL, 0 ≤ x := by decide
    exact this _ (List.getElem_mem h)
  · rw [List.getD_eq_getElem?_getD, List.getElem?_eq_none h]
    decide
theorem byte_div {l : List Int} {a : Int} (hf : Fed l a) (d : Int) (hd : 0 ≤ d) : 0 ≤ Int.tdiv (nx l a).1 d := Int.tdiv_nonneg hf.byte.1 hd
theorem lv_all : ∀ o ∈ arith ++ cmpL ++ logicL, ∃ n : Int, n ≠ 0 ∧ expr_Level.f 3 o = some n := by
  intro o ho
  simp only [arith, cmpL, logicL, List.cons_append, List.nil_append, List.mem_cons, List.not_mem_nil, or_false] at ho
  rcases ho with rfl | rfl | rfl | rfl | rfl | rfl | rfl | rfl | rfl | rfl | rfl | rfl | rfl | rfl | rfl
  · exact ⟨5, by decide, by kernel_rfl⟩
  · exact ⟨5, by decide, by kernel_rfl⟩
  · exact ⟨6, by decide, by kernel_rfl⟩
  · exact ⟨6, by decide, by kernel_rfl⟩
  · exact ⟨6, by decide, by kernel_rfl⟩
  · exact ⟨3, by decide, by kernel_rfl⟩
  · exact ⟨3, by decide, by kernel_rfl⟩
  · exact ⟨4, by decide, by kernel_rfl⟩
  · exact ⟨4, by decide, by kernel_rfl⟩
  · exact ⟨4, by decide, by kernel_rfl⟩
  · exact ⟨4, by decide, by kernel_rfl⟩
  · exact ⟨4, by decide, by kernel_rfl⟩
  · exact ⟨4, by decide, by kernel_rfl⟩
  · exact ⟨2, by decide, by kernel_rfl⟩
  · exact ⟨1, by decide, by kernel_rfl⟩
theorem sh_bin {o : ByteArray} (x y : E) (ho : o ∈ arith ++ cmpL ++ logicL) : Sh (binE o x y) := by
  obtain ⟨n, hn, h⟩ := lv_all o ho
  exact .bin o x y n (level_up h) hn
theorem good_bin {n : Nat} {o : ByteArray} {x y : E} (ho : o ∈ arith ++ cmpL ++ logicL) (hx : Good n x) (hy : Good n y) : Good (n + 1) (binE o x y) := ⟨sh_bin x y ho, fun z hz => by
  have hz' : z = x ∨ z = y := by simpa [binE] using hz
  rcases hz' with rfl | rfl <;> assumption⟩
theorem good_un {n : Nat} {o : ByteArray} {x : E} (ho : (o.toList == ([45] : List UInt8) || o.toList == ([33] : List UInt8)) = true) (hx : Good n x) : Good (n + 1) (unE o x) := ⟨.un o x ho, fun z hz => by
  have hz' : z = x := by simpa [unE] using hz
  exact hz' ▸ hx⟩
theorem good_num : ∀ (n : Nat) {l : List Int} {a : Int} (hf : Fed l a) (vars : List Slot) (own : Slot) (hs : ∀ s ∈ vars ++ [own], SlotOk s), Good n (numF n l a vars own).1
  | 0, l, a, hf, vars, own, hs => by
    unfold numF
    split
    · exact ⟨.lit _ (lit_int _ (nums_lo _)), rfl⟩
    · exact good_of hf.next vars own _ _ hs (lit_int 1 (by decide))
  | n + 1, l, a, hf, vars, own, hs => by
    have h1 := good_num n hf.next vars own hs
    have h2 := good_num n (Fed.num n hf.next vars own) vars own hs
    rw [numF]
    split
    · exact Good.le (n := n + 1) ⟨.lit _ (lit_int _ (nums_lo _)), rfl⟩
    · split
      · exact Good.le (good_of hf.next vars own _ _ hs (lit_int 1 (by decide))) _
      · split
        · exact Good.le (n := n + 1) ⟨.cnt _ (hs own (by simp)).1, rfl⟩
        · split
          · exact good_un (by rw [Lib.toList_data]; rfl) h1
          · have t := tmod_in (Int.tdiv (nx l a).1 8) 5 (byte_div hf 8 (by decide)) (by decide)
            exact good_bin (by have := rd_in ByteArray.empty arith _ t.1 t.2; simp only [List.mem_append]; exact .inl (.inl this)) h1 h2
theorem words_lit (j : Int) : LitOk ⟨3, 0, rdOf ByteArray.empty wordsL j⟩ := by
  have h : rdOf ByteArray.empty wordsL j ∈ wordsL ∨ rdOf ByteArray.empty wordsL j = ByteArray.empty := by
    unfold rdOf
    rcases Nat.lt_or_ge j.toNat wordsL.length with h | h
    · left
      rw [List.getD_eq_getElem?_getD, List.getElem?_eq_getElem h]
      exact List.getElem_mem h
    · right
      rw [List.getD_eq_getElem?_getD, List.getElem?_eq_none h]
      rfl
  have all : ∀ o : ByteArray, (o ∈ wordsL ∨ o = ByteArray.empty) → LitOk ⟨3, 0, o⟩ := by
    intro o ho
    simp only [wordsL, List.mem_cons, List.not_mem_nil, or_false] at ho
    rcases ho with (rfl | rfl | rfl | rfl) | rfl <;> exact ⟨by kernel_rfl, by decide, by kernel_rfl⟩
  exact all _ h
theorem good_text : ∀ (n : Nat) {l : List Int} {a : Int} (hf : Fed l a) (vars : List Slot) (own : Slot) (hs : ∀ s ∈ vars ++ [own], SlotOk s), Good n (textF n l a vars own).1
  | 0, l, a, hf, vars, own, hs => by
    unfold textF
    split
    · exact ⟨.lit _ (words_lit _), rfl⟩
    · exact good_of hf.next vars own _ _ hs ⟨by kernel_rfl, by decide, by kernel_rfl⟩
  | n + 1, l, a, hf, vars, own, hs => by
    have h1 := good_text n hf.next vars own hs
    have h2 := good_text n (Fed.text n hf.next vars own) vars own hs
    rw [textF]
    split
    · exact Good.le (n := n + 1) ⟨.lit _ (words_lit _), rfl⟩
    · split
      · exact Good.le (good_of hf.next vars own _ _ hs ⟨by kernel_rfl, by decide, by kernel_rfl⟩) _
      · exact good_bin (by simp [arith]) h1 h2
theorem good_truthZ {l : List Int} {a : Int} (hf : Fed l a) (vars : List Slot) (own : Slot) (hs : ∀ s ∈ vars ++ [own], SlotOk s) : Good 2 (truthZ l a vars own).1 := by
  have t := tmod_in (Int.tdiv (nx l a).1 16) 8 (byte_div hf 16 (by decide)) (by decide)
  have ho : rdOf ByteArray.empty cmpL (Int.tmod (Int.tdiv (nx l a).1 16) 8) ∈ arith ++ cmpL ++ logicL := by have := rd_in ByteArray.empty cmpL _ t.1 t.2; simp only [List.mem_append]; exact .inl (.inr this)
  unfold truthZ
  split
  · exact good_bin ho (good_text 1 hf.next vars own hs) (good_text 1 (Fed.text 1 hf.next vars own) vars own hs)
  · exact good_bin ho (good_num 1 hf.next vars own hs) (good_num 1 (Fed.num 1 hf.next vars own) vars own hs)
theorem bool_lit (q : Int) (h : 0 ≤ q) : LitOk ⟨2, Int.tmod q 2, ⟨#[]⟩⟩ := by
  have t : 0 ≤ Int.tmod q 2 ∧ Int.tmod q 2 < 2 := tmod_in q 2 h (by decide)
  have hc : Int.tmod q 2 = 0 ∨ Int.tmod q 2 = 1 := by have := t.2; omega
  rcases hc with e | e <;> rw [e] <;> exact ⟨by kernel_rfl, by decide, by kernel_rfl⟩
theorem good_truth : ∀ (n : Nat) {l : List Int} {a : Int} (hf : Fed l a) (vars : List Slot) (own : Slot) (hs : ∀ s ∈ vars ++ [own], SlotOk s), Good (n + 2) (truthF n l a vars own).1
  | 0, l, a, hf, vars, own, hs => by
    unfold truthF
    split
    · exact Good.le (n := 2) ⟨.lit _ (bool_lit _ (byte_div hf 16 (by decide))), rfl⟩
    · split
      · exact Good.le (good_of hf.next vars own _ _ hs ⟨by kernel_rfl, by decide, by kernel_rfl⟩) _
      · exact good_truthZ hf vars own hs
  | n + 1, l, a, hf, vars, own, hs => by
    have h1 := good_truth n hf.next vars own hs
    have h2 := good_truth n (Fed.truth n hf.next vars own) vars own hs
    rw [truthF]
    split
    · exact Good.le (n := n + 1 + 2) ⟨.lit _ (bool_lit _ (byte_div hf 16 (by decide))), rfl⟩
    · split
      · exact Good.le (good_of hf.next vars own _ _ hs ⟨by kernel_rfl, by decide, by kernel_rfl⟩) _
      · split
        · exact good_un (by rw [Lib.toList_data]; rfl) h1
        · split
          · have t := tmod_in (Int.tdiv (nx l a).1 16) 2 (byte_div hf 16 (by decide)) (by decide)
            exact good_bin (by have := rd_in ByteArray.empty logicL _ t.1 t.2; simp only [List.mem_append]; exact .inr this) h1 h2
          · have h := good_truthZ hf vars own hs
            have up : ∀ m, Good (2 + m) (truthZ l a vars own).1 := fun m => by
              induction m with
              | zero => exact h
              | succ m ih => exact ih.up
            have := up (n + 1)
            rwa [show 2 + (n + 1) = n + 1 + 2 from by omega] at this
theorem slots_ok : ∀ s ∈ [varA] ++ [varB], SlotOk s := by
  intro s hs
  simp only [List.cons_append, List.nil_append, List.mem_cons, List.not_mem_nil, or_false] at hs
  rcases hs with rfl | rfl
  · exact ⟨by decide, by decide⟩
  · exact ⟨by decide, by decide⟩
/-- What is made is right, to the depth of five. -/
theorem good_made {l : List Int} (hf : Fed l 0) : Good 5 (madeE l) := by
  unfold madeE
  split
  · exact (good_num 3 hf.next _ _ slots_ok).up.up
  · split
    · exact (good_text 2 hf.next _ _ slots_ok).up.up.up
    · exact good_truth 3 hf.next _ _ slots_ok
end Go.Proofs.YtccaodehgaaheaaDoor.Pure

namespace Go.Proofs.YtccaodehgaaheaaDoor.Pure
open Go.RowKit Go.Proofs.YtccaodehgaaheaaDoor Go.Proofs.YtccaodehgaaheaaDoor.R Go.Proofs.YtccaodehgaaheaaDoor.SN Go.Proofs.YtccaodehgaaheaaDoorW.PrintWords
set_option linter.unusedVariables false
set_option linter.unusedSimpArgs false
theorem rt_false {k : Nat} {x : E} (h : Hd k x = some false) : Rt (k + 1) x = some false := by
  rw [rt_step, h]
  rfl
theorem plus_lv : ∀ k, expr_Level.f (k + 3) (⟨#[43]⟩ : ByteArray) = some 5 := level_up (by kernel_rfl)
theorem eq_lv : ∀ k, expr_Level.f (k + 3) (⟨#[61]⟩ : ByteArray) = some 0 := level_up (by kernel_rfl)
/-- What stands above it is not right either. -/
theorem up_false {k : Nat} {x : E} (h : Rt (k + 4) x = some false) : Rt (k + 5) (binE ⟨#[43]⟩ (litE ⟨1, 0, ⟨#[]⟩⟩) x) = some false := by
  have hs : Sh (binE ⟨#[43]⟩ (litE ⟨1, 0, ⟨#[]⟩⟩) x) := .bin _ _ _ 5 plus_lv (by decide)
  have hl : Rt (k + 4) (litE ⟨1, 0, ⟨#[]⟩⟩) = some true := good_right 0 ⟨.lit _ (lit_int 0 (by decide)), rfl⟩ k
  show Rt ((k + 4) + 1) _ = _
  rw [rt_step, show k + 4 = (k + 1) + 3 from rfl, sh_head hs, Option.bind_some, if_pos rfl]
  show allO (fun y => Rt ((k + 1) + 3) y) [litE ⟨1, 0, ⟨#[]⟩⟩, x] = some false
  unfold allO
  rw [show Rt ((k + 1) + 3) (litE ⟨1, 0, ⟨#[]⟩⟩) = some true from hl, Option.bind_some, if_pos rfl]
  unfold allO
  rw [show Rt ((k + 1) + 3) x = some false from h]
  rfl
/-- Behind the turn. -/
theorem right_j1 (k : Nat) (x : E) (h : Hd (k + 3) x = some false) : marshallinglaw07_ExprRight.j1 (k + 6) true x.f0 x.f1 x.f2.f0 x.f2.f1 x.f2.f2 x.f3 x.f4 x.f5 = some true := by
  have h1 : Rt (k + 4) x = some false := rt_false h
  have h2 : Rt (k + 5) x = some false := expr_Right.mono _ _ _ _ _ _ _ _ _ _ h1
  have h3 := up_false h1
  unfold marshallinglaw07_ExprRight.j1 marshallinglaw07_lit.f marshallinglaw07_two.f
  simp only [Option.bind_some]
  rw [if_pos trivial, show expr_Right.f (k + 5) x.f0 x.f1 x.f2.f0 x.f2.f1 x.f2.f2 x.f3 x.f4 x.f5 = some false from h2]
  simp only [Option.bind_some]
  rw [if_neg (by decide), show expr_Right.f (k + 5) 4 ⟨#[43]⟩ 0 0 ⟨#[]⟩ ⟨#[]⟩ ⟨#[]⟩ [(⟨0, ⟨#[]⟩, ⟨1, 0, ⟨#[]⟩⟩, ⟨#[]⟩, ⟨#[]⟩, []⟩ : S26), (⟨x.f0, x.f1, ⟨x.f2.f0, x.f2.f1, x.f2.f2⟩, x.f3, x.f4, x.f5⟩ : S26)] = some false from h3]
  rfl
theorem val_some (a b : Int) (c : ByteArray) : ∃ r, value_Right.f a b c = some r := by
  unfold value_Right.f
  repeat' split
  all_goals exact ⟨_, rfl⟩
theorem nine_no (s : ByteArray) : isNm ((⟨#[57]⟩ : ByteArray) ++ s).data.toList = false := by
  have h : ((⟨#[57]⟩ : ByteArray) ++ s).data.toList = 57 :: s.data.toList := by
    rw [show ((⟨#[57]⟩ : ByteArray) ++ s).data = #[57] ++ s.data from ByteArray.data_append]
    simp
  rw [h]
  unfold isNm
  rw [show headLetter (57 :: s.data.toList) = false from by show letters.contains 57 = false; decide]
  simp
/-! ### the heads of what is turned -/
section
variable {k : Nat} {s : ByteArray}
theorem hd_kids {x : E} (h : Sh x) (y : E) : Hd (k + 3) ⟨x.f0, x.f1, x.f2, x.f3, x.f4, x.f5 ++ [y]⟩ = some false := by
  cases h with
  | lit v h =>
    unfold Hd litE expr_Expr_head.f
    dsimp only
    simp only [if_true, h.1, Option.bind_some, h.2.2, e0]
    rw [if_neg (Int.not_lt.2 h.2.1)]
    rfl
  | ref x z hx hy =>
    unfold Hd refE expr_Expr_head.f
    dsimp only
    rw [if_neg (by decide), if_pos rfl, isName_f, hx]
    simp only [Option.bind_some, if_true, isName_f, hy, e0]
    rfl
  | cnt x hx =>
    unfold Hd cntE expr_Expr_head.f
    dsimp only
    rw [if_neg (by decide), if_neg (by decide), if_pos rfl, isName_f, hx]
    simp only [Option.bind_some, if_true, e0]
    rfl
  | un o x ho =>
    unfold Hd unE expr_Expr_head.f
    dsimp only
    rw [if_neg (by decide), if_neg (by decide), if_neg (by decide), if_pos rfl]
    simp only [ho, if_true, e0]
    rfl
  | bin o x z n ho hn =>
    unfold Hd binE expr_Expr_head.f
    dsimp only
    rw [if_neg (by decide), if_neg (by decide), if_neg (by decide), if_neg (by decide), if_pos rfl]
    simp only [ho, Option.bind_some]
    rw [if_neg (by simpa using hn)]
    simp only [e0]
    rfl
theorem hd_op {x : E} (h : Sh x) (hs : (s.toList == ([] : List UInt8)) = false) : if x.f0 < 3 then Hd (k + 3) ⟨x.f0, s, x.f2, x.f3, x.f4, x.f5⟩ = some false else Hd (k + 3) ⟨x.f0, x.f1, x.f2, s, x.f4, x.f5⟩ = some false := by
  cases h with
  | lit v h =>
    rw [if_pos (show (litE v).f0 < 3 from (by decide : (0 : Int) < 3))]
    unfold Hd litE expr_Expr_head.f
    dsimp only
    simp only [if_true, h.1, Option.bind_some, h.2.2, e0, hs]
    rw [if_neg (Int.not_lt.2 h.2.1)]
    rfl
  | ref x z hx hy =>
    rw [if_pos (show (refE x z).f0 < 3 from (by decide : (1 : Int) < 3))]
    unfold Hd refE expr_Expr_head.f
    dsimp only
    rw [if_neg (by decide), if_pos rfl, isName_f, hx]
    simp only [Option.bind_some, if_true, isName_f, hy, e0, hs]
    rfl
  | cnt x hx =>
    rw [if_pos (show (cntE x).f0 < 3 from (by decide : (2 : Int) < 3))]
    unfold Hd cntE expr_Expr_head.f
    dsimp only
    rw [if_neg (by decide), if_neg (by decide), if_pos rfl, isName_f, hx]
    simp only [Option.bind_some, if_true, e0, hs]
    rfl
  | un o x ho =>
    rw [if_neg (show ¬ ((unE o x).f0 < 3) from (by decide : ¬ ((3 : Int) < 3)))]
    unfold Hd unE expr_Expr_head.f
    dsimp only
    rw [if_neg (by decide), if_neg (by decide), if_neg (by decide), if_pos rfl]
    simp only [ho, if_true, e0, hs]
    rfl
  | bin o x z n ho hn =>
    rw [if_neg (show ¬ ((binE o x z).f0 < 3) from (by decide : ¬ ((4 : Int) < 3)))]
    unfold Hd binE expr_Expr_head.f
    dsimp only
    rw [if_neg (by decide), if_neg (by decide), if_neg (by decide), if_neg (by decide), if_pos rfl]
    simp only [ho, Option.bind_some]
    rw [if_neg (by simpa using hn)]
    simp only [e0, hs]
    rfl
theorem hd_val {x : E} (h : Sh x) : if x.f0 = 0 then Hd (k + 3) ⟨x.f0, x.f1, ⟨x.f2.f0, -1, x.f2.f2⟩, x.f3, x.f4, x.f5⟩ = some false else Hd (k + 3) ⟨x.f0, x.f1, ⟨1, 0, ⟨#[]⟩⟩, x.f3, x.f4, x.f5⟩ = some false := by
  cases h with
  | lit v h =>
    rw [if_pos (show (litE v).f0 = 0 from (by decide : (0 : Int) = 0))]
    unfold Hd litE expr_Expr_head.f
    dsimp only
    obtain ⟨r, hr⟩ := val_some v.f0 (-1) v.f2
    simp only [if_true, hr, Option.bind_some]
    cases r <;> rfl
  | ref x z hx hy =>
    rw [if_neg (show ¬ ((refE x z).f0 = 0) from (by decide : ¬ ((1 : Int) = 0)))]
    unfold Hd refE expr_Expr_head.f
    dsimp only
    rw [if_neg (by decide), if_pos rfl, isName_f, hx]
    simp only [Option.bind_some, if_true, isName_f, hy, e0]
    rfl
  | cnt x hx =>
    rw [if_neg (show ¬ ((cntE x).f0 = 0) from (by decide : ¬ ((2 : Int) = 0)))]
    unfold Hd cntE expr_Expr_head.f
    dsimp only
    rw [if_neg (by decide), if_neg (by decide), if_pos rfl, isName_f, hx]
    simp only [Option.bind_some, if_true, e0]
    rfl
  | un o x ho =>
    rw [if_neg (show ¬ ((unE o x).f0 = 0) from (by decide : ¬ ((3 : Int) = 0)))]
    unfold Hd unE expr_Expr_head.f
    dsimp only
    rw [if_neg (by decide), if_neg (by decide), if_neg (by decide), if_pos rfl]
    simp only [ho, if_true, e0]
    rfl
  | bin o x z n ho hn =>
    rw [if_neg (show ¬ ((binE o x z).f0 = 0) from (by decide : ¬ ((4 : Int) = 0)))]
    unfold Hd binE expr_Expr_head.f
    dsimp only
    rw [if_neg (by decide), if_neg (by decide), if_neg (by decide), if_neg (by decide), if_pos rfl]
    simp only [ho, Option.bind_some]
    rw [if_neg (by simpa using hn)]
    simp only [e0]
    rfl
theorem hd_field {x : E} (h : Sh x) (hs : (s.toList == ([] : List UInt8)) = false) : if x.f0 = 1 then Hd (k + 3) ⟨x.f0, x.f1, x.f2, x.f3, (⟨#[57]⟩ : ByteArray) ++ s, x.f5⟩ = some false else Hd (k + 3) ⟨x.f0, x.f1, x.f2, x.f3, s, x.f5⟩ = some false := by
  cases h with
  | lit v h =>
    rw [if_neg (show ¬ ((litE v).f0 = 1) from (by decide : ¬ ((0 : Int) = 1)))]
    unfold Hd litE expr_Expr_head.f
    dsimp only
    simp only [if_true, h.1, Option.bind_some, h.2.2, e0, hs]
    rw [if_neg (Int.not_lt.2 h.2.1)]
    rfl
  | ref x z hx hy =>
    rw [if_pos (show (refE x z).f0 = 1 from (by decide : (1 : Int) = 1))]
    unfold Hd refE expr_Expr_head.f
    dsimp only
    rw [if_neg (by decide), if_pos rfl, isName_f, hx]
    simp only [Option.bind_some, if_true, isName_f, nine_no]
    rfl
  | cnt x hx =>
    rw [if_neg (show ¬ ((cntE x).f0 = 1) from (by decide : ¬ ((2 : Int) = 1)))]
    unfold Hd cntE expr_Expr_head.f
    dsimp only
    rw [if_neg (by decide), if_neg (by decide), if_pos rfl, isName_f, hx]
    simp only [Option.bind_some, if_true, e0, hs]
    rfl
  | un o x ho =>
    rw [if_neg (show ¬ ((unE o x).f0 = 1) from (by decide : ¬ ((3 : Int) = 1)))]
    unfold Hd unE expr_Expr_head.f
    dsimp only
    rw [if_neg (by decide), if_neg (by decide), if_neg (by decide), if_pos rfl]
    simp only [ho, if_true, e0, hs]
    rfl
  | bin o x z n ho hn =>
    rw [if_neg (show ¬ ((binE o x z).f0 = 1) from (by decide : ¬ ((4 : Int) = 1)))]
    unfold Hd binE expr_Expr_head.f
    dsimp only
    rw [if_neg (by decide), if_neg (by decide), if_neg (by decide), if_neg (by decide), if_pos rfl]
    simp only [ho, Option.bind_some]
    rw [if_neg (by simpa using hn)]
    simp only [e0, hs]
    rfl
theorem hd_none (k : Nat) (q a b : Int) (o c y z : ByteArray) (l : List S26) (h : q < 0) : expr_Expr_head.f k q o a b c y z l = some false := by
  unfold expr_Expr_head.f
  rw [if_neg (by omega), if_neg (by omega), if_neg (by omega), if_neg (by omega), if_neg (by omega)]
theorem kind_lt {x : E} (h : Sh x) : wrap64 (-1 - x.f0) < 0 := by
  cases h with
  | lit v h => exact (by unfold wrap64; omega : wrap64 (-1 - 0) < 0)
  | ref x z hx hy => exact (by unfold wrap64; omega : wrap64 (-1 - 1) < 0)
  | cnt x hx => exact (by unfold wrap64; omega : wrap64 (-1 - 2) < 0)
  | un o x ho => exact (by unfold wrap64; omega : wrap64 (-1 - 3) < 0)
  | bin o x z n ho hn => exact (by unfold wrap64; omega : wrap64 (-1 - 4) < 0)
theorem hd_kind {x : E} (h : Sh x) : Hd (k + 3) ⟨wrap64 (-1 - x.f0), x.f1, x.f2, x.f3, x.f4, x.f5⟩ = some false := hd_none _ _ _ _ _ _ _ _ _ (kind_lt h)
theorem hd_eq (x y : E) : Hd (k + 3) (binE ⟨#[61]⟩ x y) = some false := by
  unfold Hd binE expr_Expr_head.f
  dsimp only
  rw [if_neg (by decide), if_neg (by decide), if_neg (by decide), if_neg (by decide), if_pos rfl]
  simp only [eq_lv, Option.bind_some]
  rw [if_pos (by decide)]
end
theorem kids_few {x : E} (h : Good 5 x) : x.f5.length ≤ 2 := by
  cases h.sh <;> simp [litE, refE, cntE, unE, binE]
theorem right_j0 (k : Nat) (x : E) (h : Good 5 x) (a1 : Int) (h0 : 0 ≤ a1) (s : ByteArray) (hs : (s.toList == ([] : List UInt8)) = false) (hz : s.size ≤ 140737488351232) : marshallinglaw07_ExprRight.j0 (k + 7) a1 s true x.f0 x.f1 x.f2.f0 x.f2.f1 x.f2.f2 x.f3 x.f4 x.f5 = some true := by
  have hsh := h.sh
  have hk := kids_few h
  rw [marshallinglaw07_ExprRight.j0]
  by_cases c0 : Int.tmod a1 6 = 0
  · rw [if_pos c0, if_pos (by simp; omega)]
    simp only [Option.bind_some, marshallinglaw07_lit.f, List.nil_append]
    rw [if_pos (by omega)]
    exact right_j1 k ⟨x.f0, x.f1, x.f2, x.f3, x.f4, x.f5 ++ [litE ⟨1, 1, ⟨#[]⟩⟩]⟩ (hd_kids hsh _)
  · rw [if_neg c0]
    by_cases c1 : Int.tmod a1 6 = 1
    · rw [if_pos c1]
      have hh := hd_op (k := k) hsh hs
      by_cases c : x.f0 < 3
      · rw [if_pos c] at hh ⊢
        exact right_j1 k ⟨x.f0, s, x.f2, x.f3, x.f4, x.f5⟩ hh
      · rw [if_neg c] at hh ⊢
        exact right_j1 k ⟨x.f0, x.f1, x.f2, s, x.f4, x.f5⟩ hh
    · rw [if_neg c1]
      by_cases c2 : Int.tmod a1 6 = 2
      · rw [if_pos c2]
        have hh := hd_val (k := k) hsh
        by_cases c : x.f0 = 0
        · rw [if_pos c] at hh ⊢
          exact right_j1 k ⟨x.f0, x.f1, ⟨x.f2.f0, -1, x.f2.f2⟩, x.f3, x.f4, x.f5⟩ hh
        · rw [if_neg c] at hh ⊢
          exact right_j1 k ⟨x.f0, x.f1, ⟨1, 0, ⟨#[]⟩⟩, x.f3, x.f4, x.f5⟩ hh
      · rw [if_neg c2]
        by_cases c3 : Int.tmod a1 6 = 3
        · rw [if_pos c3]
          have hh := hd_field (k := k) hsh hs
          by_cases c : x.f0 = 1
          · rw [if_pos c] at hh ⊢
            rw [if_pos (by omega)]
            exact right_j1 k ⟨x.f0, x.f1, x.f2, x.f3, (⟨#[57]⟩ : ByteArray) ++ s, x.f5⟩ hh
          · rw [if_neg c] at hh ⊢
            exact right_j1 k ⟨x.f0, x.f1, x.f2, x.f3, s, x.f5⟩ hh
        · rw [if_neg c3]
          by_cases c4 : Int.tmod a1 6 = 4
          · rw [if_pos c4]
            exact right_j1 k ⟨wrap64 (-1 - x.f0), x.f1, x.f2, x.f3, x.f4, x.f5⟩ (hd_kind hsh)
          · rw [if_neg c4]
            have t : 0 ≤ Int.tmod a1 6 ∧ Int.tmod a1 6 < 6 := tmod_in a1 6 h0 (by decide)
            rw [if_pos (show Int.tmod a1 6 = 5 by have := t.1; have := t.2; omega)]
            unfold marshallinglaw07_two.f
            simp only [Option.bind_some]
            exact right_j1 k (binE ⟨#[61]⟩ x x) (hd_eq _ _)
theorem wf8 {x : Int} (h : (Lit.int .u8 x).wf = true) : 0 ≤ x ∧ x ≤ 255 := by simpa [Lit.wf, IntKind.min, IntKind.max, IntKind.signed, IntKind.bits] using h
theorem ExprRight : ∀ (l0 : List Int) (a1 : Int) (a2 : ByteArray), l0.length ≤ maxLen → l0.length * 1 ≤ 140737488351232 → (∀ x ∈ l0, (Lit.int .u8 x).wf = true) → (Lit.int .u8 a1).wf = true → a2.size ≤ 140737488351232 → ∃ k, marshallinglaw07_ExprRight.f k l0 a1 a2 = some true := by
  intro l0 a1 a2 _ _ hb ha hs
  refine ⟨60, ?_⟩
  have hb' : ∀ b ∈ l0, 0 ≤ b ∧ b ≤ 255 := fun b hm => wf8 (hb b hm)
  have ha' : 0 ≤ a1 := (wf8 ha).1
  have hf : Fed l0 0 := ⟨by decide, by simp, hb'⟩
  have hg := good_made hf
  have hr : Rt 60 (madeE l0) = some true := good_right 5 hg 51
  unfold marshallinglaw07_ExprRight.f
  rw [ex60]
  simp only [Option.bind_some]
  rw [if_pos trivial, show marshallinglaw07_made.f l0 = some ((madeE l0).f0, (madeE l0).f1, (madeE l0).f2.f0, (madeE l0).f2.f1, (madeE l0).f2.f2, (madeE l0).f3, (madeE l0).f4, (madeE l0).f5) from by unfold marshallinglaw07_made.f; rw [if_pos (List.all_eq_true.2 fun b hm => by have := hb' b hm; simpa using this)]]
  simp only [Option.bind_some]
  rw [show expr_Right.f 60 (madeE l0).f0 (madeE l0).f1 (madeE l0).f2.f0 (madeE l0).f2.f1 (madeE l0).f2.f2 (madeE l0).f3 (madeE l0).f4 (madeE l0).f5 = some true from hr]
  simp only [Option.bind_some]
  rw [if_pos trivial]
  by_cases he : a2.toList = ([] : List UInt8)
  · rw [if_pos he]
    exact right_j0 53 _ hg a1 ha' ⟨#[113]⟩ (by rw [Lib.toList_data]; rfl) (by decide)
  · rw [if_neg he]
    exact right_j0 53 _ hg a1 ha' a2 (by simpa using he) hs
end Go.Proofs.YtccaodehgaaheaaDoor.Pure
