/- The plain law of ExprNames: a count is right just if its variable is a name, a reference just if both are; each is put as the document says, and speaks of its variable. -/
import Derived.Test.YtccaodehgaaheaaDoorPU
import Derived.Test.YtccaodehgaaheaaDoorSN
import Derived.Test.YtccaodehgaaheaaDoorEx
import Derived.Test.YtccaodehgaaheaaDoorP16
namespace Go.Proofs.YtccaodehgaaheaaDoor.Pure
open Go.RowKit Go.Proofs.YtccaodehgaaheaaDoor Go.Proofs.YtccaodehgaaheaaDoor.P Go.Proofs.YtccaodehgaaheaaDoor.PU Go.Proofs.YtccaodehgaaheaaDoor.SN Go.Proofs.YtccaodehgaaheaaDoorW.PrintWords
theorem right_count (k : Nat) (x : ByteArray) : expr_Right.f (k + 2) 2 ⟨#[]⟩ 0 0 ⟨#[]⟩ x ⟨#[]⟩ [] = some (isNm x.data.toList) := by
  show (expr_Expr_head.f (k + 1) 2 ⟨#[]⟩ 0 0 ⟨#[]⟩ x ⟨#[]⟩ []).bind (fun b => if b = true then allO _ [] else some false) = _
  unfold expr_Expr_head.f
  rw [if_neg (by decide), if_neg (by decide), if_pos rfl, isName_f]
  simp only [Option.bind_some, empty_list]
  cases isNm x.data.toList <;> rfl
theorem right_ref (k : Nat) (x y : ByteArray) : expr_Right.f (k + 2) 1 ⟨#[]⟩ 0 0 ⟨#[]⟩ x y [] = some (isNm x.data.toList && isNm y.data.toList) := by
  show (expr_Expr_head.f (k + 1) 1 ⟨#[]⟩ 0 0 ⟨#[]⟩ x y []).bind (fun b => if b = true then allO _ [] else some false) = _
  unfold expr_Expr_head.f
  rw [if_neg (by decide), if_pos rfl, isName_f]
  simp only [Option.bind_some, isName_f, empty_list]
  cases isNm x.data.toList <;> cases isNm y.data.toList <;> rfl
theorem put_count (k : Nat) (x : ByteArray) (h : x.size ≤ 140737488351232) : expr_Put.f (k + 1) 2 ⟨#[]⟩ 0 0 ⟨#[]⟩ x ⟨#[]⟩ [] = some ((⟨#[35]⟩ : ByteArray) ++ x) := by
  simp only [expr_Put.f, expr_Put.s]
  rw [if_neg (by decide), if_pos trivial, if_pos (by omega)]
theorem put_ref (k : Nat) (x y : ByteArray) (h : x.size ≤ 140737488351232) (h2 : y.size ≤ 140737488351232) : expr_Put.f (k + 1) 1 ⟨#[]⟩ 0 0 ⟨#[]⟩ x y [] = some ((x ++ (⟨#[46]⟩ : ByteArray)) ++ y) := by
  have s : (x ++ (⟨#[46]⟩ : ByteArray)).size = x.size + 1 := by rw [ByteArray.size_append]; rfl
  simp only [expr_Put.f, expr_Put.s]
  rw [if_pos trivial, if_pos (by omega), if_pos (by omega)]
theorem one_sorted (x : ByteArray) : compactS (sortS [x]) = [x] := by
  have h1 : sortS [x] = [x] := by
    unfold sortS
    rw [show texts [x] = [x.data.toList] from rfl, List.mergeSort_singleton]
    rfl
  rw [h1]
  unfold compactS
  rw [show texts [x] = [x.data.toList] from rfl, Lib.compact_all]
  · rfl
  · intro j hj
    obtain rfl : j = 0 := by simpa using hj
    rfl
theorem vars_ref (k : Nat) (x y : ByteArray) : expr_Vars.f (k + 4) 1 ⟨#[]⟩ 0 0 ⟨#[]⟩ x y [] = some [x] := by
  simp only [expr_Vars.f]
  rw [if_pos trivial]
  simp only [expr_Vars.j0]
  rw [if_pos trivial, if_pos (by simp)]
  simp only [expr_Vars.j1, expr_Vars.l0]
  rw [if_neg (by simp), if_pos (by simp)]
  exact congrArg some (one_sorted x)
theorem a_name : isNm ([97] : List UInt8) = true := by decide
theorem nine_name : isNm ([57] : List UInt8) = false := by decide
theorem names_j1 (k : Nat) (x y : ByteArray) (p q : Bool) (hp : p = isNm x.data.toList) (hq : q = isNm y.data.toList) : marshallinglaw07_ExprNames.j1 (k + 5) x true p q false 1 ⟨#[]⟩ 0 0 ⟨#[]⟩ x y = some true := by
  have h9 : expr_Right.f (k + 4) 2 ⟨#[]⟩ 0 0 ⟨#[]⟩ (⟨#[57]⟩ : ByteArray) ⟨#[]⟩ [] = some false := by
    rw [right_count (k + 2)]
    exact congrArg some nine_name
  simp only [marshallinglaw07_ExprNames.j1]
  rw [if_neg (by decide), vars_ref k]
  simp only [Option.bind_some]
  rw [if_pos trivial, right_ref (k + 2)]
  simp only [Option.bind_some, ← hp, ← hq, h9]
  have e : ∀ b : Bool, (if ((([x] : List ByteArray).length : Int) = 1) then (if 0 < ((([x] : List ByteArray).length : Int)) then (some ((rdOf ByteArray.empty [x] 0).toList == x.toList)) else none) else none) = some true := fun _ => by
    rw [if_pos (by simp), if_pos (by simp)]
    have : rdOf ByteArray.empty [x] 0 = x := rfl
    rw [this, beq_self_eq_true]
  cases p with
  | true =>
    simp only [Bool.true_and, beq_self_eq_true, if_true, Bool.false_eq_true, if_false]
    exact e true
  | false =>
    simp only [Bool.false_and, beq_self_eq_true, if_true, Bool.false_eq_true, if_false]
    exact e true
theorem names_j0 (k : Nat) (x y : ByteArray) (hx : x.size ≤ 140737488351232) (hy : y.size ≤ 140737488351232) : marshallinglaw07_ExprNames.j0 (k + 6) x y true = some true := by
  have ha : expr_Right.f (k + 5) 1 ⟨#[]⟩ 0 0 ⟨#[]⟩ (⟨#[97]⟩ : ByteArray) y [] = some (isNm y.data.toList) := by
    rw [right_ref (k + 3)]
    have : isNm ((⟨#[97]⟩ : ByteArray).data.toList) = true := a_name
    rw [this, Bool.true_and]
  have s : (x ++ (⟨#[46]⟩ : ByteArray)).size = x.size + 1 := by rw [ByteArray.size_append]; rfl
  simp only [marshallinglaw07_ExprNames.j0]
  rw [right_count (k + 3), ha]
  simp only [Option.bind_some]
  by_cases hn : isNm x.data.toList = true
  · rw [if_pos hn, put_count (k + 4) x hx]
    simp only [Option.bind_some]
    rw [if_pos (by omega), if_pos trivial]
    by_cases hm : isNm y.data.toList = true
    · rw [if_pos hm, put_ref (k + 4) x y hx hy]
      simp only [Option.bind_some]
      rw [if_pos (by omega), if_pos (by omega), bne_self_eq_false]
      exact names_j1 k x y _ _ rfl rfl
    · rw [if_neg hm]
      exact names_j1 k x y _ _ rfl rfl
  · rw [if_neg hn]
    exact names_j1 k x y _ _ rfl rfl
theorem ExprNames : ∀ (a0 : ByteArray) (a1 : ByteArray) (a2 : Int), a0.size ≤ 140737488351232 → a1.size ≤ 140737488351232 → (Lit.int .u8 a2).wf = true → ∃ k, marshallinglaw07_ExprNames.f k a0 a1 a2 = some true := by
  intro a0 a1 a2 h0 h1 _
  refine ⟨60, ?_⟩
  unfold marshallinglaw07_ExprNames.f
  rw [ex60]
  simp only [Option.bind_some]
  rw [if_pos trivial]
  split
  · have hi : 0 ≤ ((Int.tdiv a2 3) % 256) % 5 := by omega
    have hi5 : ((Int.tdiv a2 3) % 256) % 5 < 5 := by omega
    generalize ((Int.tdiv a2 3) % 256) % 5 = i at hi hi5
    rw [if_pos hi, if_pos (by simpa using hi5)]
    obtain ⟨n, rfl⟩ : ∃ n : Nat, i = n := ⟨i.toNat, by omega⟩
    have hn : n < 5 := by omega
    refine names_j0 54 _ _ ?_ h1
    have hsz : ∀ m : Nat, m < 5 → (rdOf ByteArray.empty ([(⟨#[97]⟩ : ByteArray), (⟨#[95]⟩ : ByteArray), (⟨#[98, 57]⟩ : ByteArray), (⟨#[66, 89]⟩ : ByteArray), (⟨#[116, 114, 117, 101]⟩ : ByteArray)] : List ByteArray) (m : Int)).size ≤ 4 := by decide
    exact Nat.le_trans (hsz n hn) (by decide)
  · exact names_j0 54 _ _ h0 h1
end Go.Proofs.YtccaodehgaaheaaDoor.Pure
