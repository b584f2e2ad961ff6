/- Plain words of Put: what is put of a literal, of an operation of two, with or without brackets. -/
import Derived.Test.YtccaodehgaaheaaDoorP9
namespace Go.Proofs.YtccaodehgaaheaaDoor.PU
open Go.RowKit Go.Proofs.YtccaodehgaaheaaDoor.P Go.Proofs.YtccaodehgaaheaaDoorW.PrintWords
def txt (n : Int) : ByteArray := ⟨(Lib.itoa n).toArray⟩
theorem empty_list : ((⟨#[]⟩ : ByteArray).toList == ([] : List UInt8)) = true := by rw [Lib.toList_data]; rfl
theorem show_int (n : Int) (h0 : -9223372036854775808 ≤ n) (h1 : n ≤ 9223372036854775807) : value_Show.f 1 n ⟨#[]⟩ = some (txt n) := by
  unfold value_Show.f value_Right.f strconv_FormatInt.f
  rw [if_pos rfl, empty_list]
  simp only [Bool.and_true, Option.bind_some]
  rw [if_pos (by decide), if_pos trivial, if_pos ⟨h0, h1, trivial⟩]
  rfl
/-- A kid, in brackets if it must. -/
def Bd (k : Nat) (x : S26) (least : Int) : Option ByteArray :=
  expr_bound.s (fun b0 b1 b2 b3 b4 b5 b6 b7 => expr_Put.f k b0 b1 b2 b3 b4 b5 b6 b7) k x.f0 x.f1 x.f2.f0 x.f2.f1 x.f2.f2 x.f3 x.f4 x.f5 least
def Pt (k : Nat) (x : S26) : Option ByteArray := expr_Put.f k x.f0 x.f1 x.f2.f0 x.f2.f1 x.f2.f2 x.f3 x.f4 x.f5
theorem pt_eq (k : Nat) (x : S26) : Pt (k + 1) x = expr_Put.s (fun b0 b1 b2 b3 b4 b5 b6 b7 b8 => expr_bound.s (fun c0 c1 c2 c3 c4 c5 c6 c7 => expr_Put.f k c0 c1 c2 c3 c4 c5 c6 c7) k b0 b1 b2 b3 b4 b5 b6 b7 b8) k x.f0 x.f1 x.f2.f0 x.f2.f1 x.f2.f2 x.f3 x.f4 x.f5 := rfl
theorem pt_lit (k : Nat) (x : S26) (h : x.f0 = 0) (t : ByteArray) (ht : value_Show.f x.f2.f0 x.f2.f1 x.f2.f2 = some t) : Pt (k + 3) x = some t := by
  rw [pt_eq, h]
  simp only [expr_Put.s]
  rw [if_neg (by decide), if_neg (by decide), if_neg (by decide)]
  simp only [expr_Put.j0]
  rw [if_neg (by decide), if_neg (by decide)]
  simp only [expr_Put.j1]
  rw [if_neg (by decide), ht]
  rfl
def sp : ByteArray := ⟨#[32]⟩
theorem pt_two (k : Nat) (x a b : S26) (n : Int) (ta tb : ByteArray) (h : x.f0 = 4) (hk : x.f5 = [a, b]) (hl : expr_Level.f k x.f1 = some n) (hn : 0 ≤ n ∧ n ≤ 6) (ha : Bd (k + 2) a n = some ta) (hb : Bd (k + 2) b (n + 1) = some tb)
    (hs : ta.size + x.f1.size + tb.size + 2 ≤ 9223372036854775807) : Pt (k + 3) x = some ((((ta ++ sp) ++ x.f1) ++ sp) ++ tb) := by
  have hw : wrap64 (n + 1) = n + 1 := by unfold wrap64; omega
  rw [pt_eq, h, hk]
  simp only [expr_Put.s]
  rw [if_neg (by decide), if_neg (by decide), if_neg (by decide)]
  simp only [expr_Put.j0]
  rw [if_neg (by decide), if_pos trivial]
  simp only [expr_Put.j1]
  rw [if_pos (by simp), hl]
  simp only [Option.bind_some]
  rw [if_pos (by simp)]
  have ha' : expr_bound.s (fun c0 c1 c2 c3 c4 c5 c6 c7 => expr_Put.f (k + 2) c0 c1 c2 c3 c4 c5 c6 c7) (k + 2) a.f0 a.f1 a.f2.f0 a.f2.f1 a.f2.f2 a.f3 a.f4 a.f5 n = some ta := ha
  have hb' : expr_bound.s (fun c0 c1 c2 c3 c4 c5 c6 c7 => expr_Put.f (k + 2) c0 c1 c2 c3 c4 c5 c6 c7) (k + 2) b.f0 b.f1 b.f2.f0 b.f2.f1 b.f2.f2 b.f3 b.f4 b.f5 (n + 1) = some tb := hb
  have r0 : rd_T26 [a, b] 0 = a := rfl
  have r1 : rd_T26 [a, b] 1 = b := rfl
  rw [r0, ha']
  simp only [Option.bind_some]
  have s1 : (ta ++ sp).size = ta.size + 1 := by rw [ByteArray.size_append]; rfl
  have s2 : ((ta ++ sp) ++ x.f1).size = ta.size + 1 + x.f1.size := by rw [ByteArray.size_append, s1]
  have s3 : (((ta ++ sp) ++ x.f1) ++ sp).size = ta.size + 1 + x.f1.size + 1 := by rw [ByteArray.size_append, s2]; rfl
  rw [if_pos (by omega), if_pos (by show (ta ++ sp).size + _ ≤ _; omega), if_pos (by show ((ta ++ sp) ++ x.f1).size + _ ≤ _; omega), if_pos (by simp), r1, hw, hb']
  simp only [Option.bind_some]
  rw [if_pos (by show (((ta ++ sp) ++ x.f1) ++ sp).size + _ ≤ _; omega)]
  rfl
theorem bd_plain (k : Nat) (x : S26) (least : Int) (t : ByteArray) (h : x.f0 ≠ 4) (ht : Pt (k + 1) x = some t) : Bd (k + 1) x least = some t := by
  unfold Bd
  simp only [expr_bound.s]
  rw [if_neg h]
  simp only [expr_bound.j0]
  rw [if_neg (by decide)]
  have ht' : expr_Put.f (k + 1) x.f0 x.f1 x.f2.f0 x.f2.f1 x.f2.f2 x.f3 x.f4 x.f5 = some t := ht
  rw [ht']
  rfl
theorem bd_open (k : Nat) (x : S26) (least m : Int) (t : ByteArray) (h : x.f0 = 4) (hl : expr_Level.f (k + 1) x.f1 = some m) (hm : ¬ m < least) (ht : Pt (k + 1) x = some t) : Bd (k + 1) x least = some t := by
  unfold Bd
  simp only [expr_bound.s]
  rw [if_pos h, hl]
  simp only [Option.bind_some, expr_bound.j0, decide_eq_false hm]
  rw [if_neg (by decide)]
  have ht' : expr_Put.f (k + 1) x.f0 x.f1 x.f2.f0 x.f2.f1 x.f2.f2 x.f3 x.f4 x.f5 = some t := ht
  rw [ht']
  rfl
def lp : ByteArray := ⟨#[40]⟩
def rp : ByteArray := ⟨#[41]⟩
theorem bd_shut (k : Nat) (x : S26) (least m : Int) (t : ByteArray) (h : x.f0 = 4) (hl : expr_Level.f (k + 1) x.f1 = some m) (hm : m < least) (ht : Pt (k + 1) x = some t) (hs : t.size + 2 ≤ 9223372036854775807) : Bd (k + 1) x least = some ((lp ++ t) ++ rp) := by
  unfold Bd
  simp only [expr_bound.s]
  rw [if_pos h, hl]
  simp only [Option.bind_some, expr_bound.j0, decide_eq_true hm]
  rw [if_pos trivial]
  have ht' : expr_Put.f (k + 1) x.f0 x.f1 x.f2.f0 x.f2.f1 x.f2.f2 x.f3 x.f4 x.f5 = some t := ht
  have s1 : (lp ++ t).size = 1 + t.size := by rw [ByteArray.size_append]; rfl
  rw [ht']
  simp only [Option.bind_some]
  rw [if_pos (by omega), if_pos (by show (lp ++ t).size + 1 ≤ _; omega)]
  rfl
end Go.Proofs.YtccaodehgaaheaaDoor.PU
