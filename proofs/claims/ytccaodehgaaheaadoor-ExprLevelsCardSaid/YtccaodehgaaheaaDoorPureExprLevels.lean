/- The plain law of ExprLevels: an operation that binds less tightly needs no brackets around the other, the other way round it does; of one level the right one does. -/
import Derived.Test.YtccaodehgaaheaaDoorPU
import Derived.Test.YtccaodehgaaheaaDoorEx
import Derived.Test.YtccaodehgaaheaaDoorP15
namespace Go.Proofs.YtccaodehgaaheaaDoor.Pure
open Go.RowKit Go.Proofs.YtccaodehgaaheaaDoor Go.Proofs.YtccaodehgaaheaaDoor.P Go.Proofs.YtccaodehgaaheaaDoor.PU Go.Proofs.YtccaodehgaaheaaDoorW.PrintWords
def ops13 : List ByteArray := [(⟨#[124, 124]⟩ : ByteArray), (⟨#[38, 38]⟩ : ByteArray), (⟨#[61, 61]⟩ : ByteArray), (⟨#[33, 61]⟩ : ByteArray), (⟨#[60]⟩ : ByteArray), (⟨#[60, 61]⟩ : ByteArray), (⟨#[62]⟩ : ByteArray), (⟨#[62, 61]⟩ : ByteArray), (⟨#[43]⟩ : ByteArray), (⟨#[45]⟩ : ByteArray), (⟨#[42]⟩ : ByteArray), (⟨#[47]⟩ : ByteArray), (⟨#[37]⟩ : ByteArray)]
def lev13 (i : Nat) : Int := [1, 2, 3, 3, 4, 4, 4, 4, 5, 5, 6, 6, 6].getD i 0
set_option maxRecDepth 100000 in
theorem lv0 : expr_Level.f 3 (ops13.getD 0 ByteArray.empty) = some (lev13 0) := by kernel_rfl
set_option maxRecDepth 100000 in
theorem lv1 : expr_Level.f 3 (ops13.getD 1 ByteArray.empty) = some (lev13 1) := by kernel_rfl
set_option maxRecDepth 100000 in
theorem lv2 : expr_Level.f 3 (ops13.getD 2 ByteArray.empty) = some (lev13 2) := by kernel_rfl
set_option maxRecDepth 100000 in
theorem lv3 : expr_Level.f 3 (ops13.getD 3 ByteArray.empty) = some (lev13 3) := by kernel_rfl
set_option maxRecDepth 100000 in
theorem lv4 : expr_Level.f 3 (ops13.getD 4 ByteArray.empty) = some (lev13 4) := by kernel_rfl
set_option maxRecDepth 100000 in
theorem lv5 : expr_Level.f 3 (ops13.getD 5 ByteArray.empty) = some (lev13 5) := by kernel_rfl
set_option maxRecDepth 100000 in
theorem lv6 : expr_Level.f 3 (ops13.getD 6 ByteArray.empty) = some (lev13 6) := by kernel_rfl
set_option maxRecDepth 100000 in
theorem lv7 : expr_Level.f 3 (ops13.getD 7 ByteArray.empty) = some (lev13 7) := by kernel_rfl
set_option maxRecDepth 100000 in
theorem lv8 : expr_Level.f 3 (ops13.getD 8 ByteArray.empty) = some (lev13 8) := by kernel_rfl
set_option maxRecDepth 100000 in
theorem lv9 : expr_Level.f 3 (ops13.getD 9 ByteArray.empty) = some (lev13 9) := by kernel_rfl
set_option maxRecDepth 100000 in
theorem lv10 : expr_Level.f 3 (ops13.getD 10 ByteArray.empty) = some (lev13 10) := by kernel_rfl
set_option maxRecDepth 100000 in
theorem lv11 : expr_Level.f 3 (ops13.getD 11 ByteArray.empty) = some (lev13 11) := by kernel_rfl
set_option maxRecDepth 100000 in
theorem lv12 : expr_Level.f 3 (ops13.getD 12 ByteArray.empty) = some (lev13 12) := by kernel_rfl
theorem level13 : ∀ i : Nat, i < 13 → expr_Level.f 3 (ops13.getD i ByteArray.empty) = some (lev13 i)
  | 0, _ => lv0
  | 1, _ => lv1
  | 2, _ => lv2
  | 3, _ => lv3
  | 4, _ => lv4
  | 5, _ => lv5
  | 6, _ => lv6
  | 7, _ => lv7
  | 8, _ => lv8
  | 9, _ => lv9
  | 10, _ => lv10
  | 11, _ => lv11
  | 12, _ => lv12
  | n + 13, h => absurd h (by omega)
theorem lev_range : ∀ i : Fin 13, 1 ≤ lev13 i.val ∧ lev13 i.val ≤ 6 := by decide
theorem op_size : ∀ i : Fin 13, (ops13.getD i.val ByteArray.empty).size ≤ 2 := by decide
/-- An operation: its text, its level. -/
theorem op_at (p : Int) (h0 : 0 ≤ p) (h1 : p < 13) : ∃ n : Int, 1 ≤ n ∧ n ≤ 6 ∧ (rdOf ByteArray.empty ops13 p).size ≤ 2 ∧ ∀ k, 3 ≤ k → expr_Level.f k (rdOf ByteArray.empty ops13 p) = some n := by
  obtain ⟨i, rfl⟩ : ∃ i : Nat, p = i := ⟨p.toNat, by omega⟩
  have hi : i < 13 := by omega
  refine ⟨lev13 i, (lev_range ⟨i, hi⟩).1, (lev_range ⟨i, hi⟩).2, op_size ⟨i, hi⟩, fun k hk => ?_⟩
  exact at_rounds (g := fun k => expr_Level.f k (ops13.getD i ByteArray.empty)) (fun k => expr_Level.mono _ k) hk (level13 i hi)
theorem txt_head : ∀ n : Fin 256, (txt n.val).size ≤ 3 ∧ 1 ≤ (txt n.val).size ∧ (txt n.val).data.toList.head? ≠ some 40 := by decide +kernel
theorem txt_at (a : Int) (h0 : 0 ≤ a) (h1 : a ≤ 255) : (txt a).size ≤ 3 ∧ ∃ c r, (txt a).data.toList = c :: r ∧ c ≠ 40 := by
  obtain ⟨i, rfl⟩ : ∃ i : Nat, a = i := ⟨a.toNat, by omega⟩
  obtain ⟨h2, h3, h4⟩ := txt_head ⟨i, by omega⟩
  refine ⟨h2, ?_⟩
  cases e : (txt (i : Int)).data.toList with
  | nil =>
    have : (txt (i : Int)).data.toList.length = 0 := by rw [e]; rfl
    rw [data_length] at this
    have h3' : 1 ≤ (txt (i : Int)).size := h3
    omega
  | cons c r =>
    refine ⟨c, r, rfl, fun hc => ?_⟩
    have h4' : (txt (i : Int)).data.toList.head? ≠ some 40 := h4
    rw [e, hc] at h4'
    exact h4' rfl
/-- A number. -/
def lt_ (n : Int) : S26 := ⟨0, ⟨#[]⟩, ⟨1, n, ⟨#[]⟩⟩, ⟨#[]⟩, ⟨#[]⟩, []⟩
def op_ (o : ByteArray) (a b : S26) : S26 := ⟨4, o, ⟨0, 0, ⟨#[]⟩⟩, ⟨#[]⟩, ⟨#[]⟩, [a, b]⟩
theorem pt_num (k : Nat) (n : Int) (h0 : 0 ≤ n) (h1 : n ≤ 255) : Pt (k + 3) (lt_ n) = some (txt n) := pt_lit k (lt_ n) rfl _ (show_int n (by omega) (by omega))
theorem bd_num (k : Nat) (n : Int) (l : Int) (h0 : 0 ≤ n) (h1 : n ≤ 255) : Bd (k + 3) (lt_ n) l = some (txt n) := bd_plain (k + 2) (lt_ n) l _ (show (0 : Int) ≠ 4 by decide) (pt_num k n h0 h1)
theorem list_ne {a b : ByteArray} (h : a.data.toList ≠ b.data.toList) : a.toList ≠ b.toList := by
  rw [Lib.toList_data, Lib.toList_data]; exact h
/-- a op b, flat. -/
def fl (ta o tb : ByteArray) : ByteArray := (((ta ++ sp) ++ o) ++ sp) ++ tb
theorem fl_size (ta o tb : ByteArray) : (fl ta o tb).size = ta.size + 1 + o.size + 1 + tb.size := by
  unfold fl
  rw [ByteArray.size_append, ByteArray.size_append, ByteArray.size_append, ByteArray.size_append]
  rfl
theorem fl_data (ta o tb : ByteArray) : (fl ta o tb).data.toList = ta.data.toList ++ ([32] ++ (o.data.toList ++ ([32] ++ tb.data.toList))) := by
  unfold fl
  simp [sp, ByteArray.data_append]
theorem br_size (t : ByteArray) : ((lp ++ t) ++ rp).size = t.size + 2 := by
  rw [ByteArray.size_append, ByteArray.size_append]
  show 1 + t.size + 1 = _
  omega
theorem br_data (t : ByteArray) : ((lp ++ t) ++ rp).data.toList = 40 :: (t.data.toList ++ [41]) := by
  simp [lp, rp, ByteArray.data_append]
theorem inner (k : Nat) (o : ByteArray) (n a b : Int) (hl : ∀ k, 3 ≤ k → expr_Level.f k o = some n) (hn : 1 ≤ n ∧ n ≤ 6) (ho : o.size ≤ 2) (ha : 0 ≤ a ∧ a ≤ 255) (hb : 0 ≤ b ∧ b ≤ 255) : Pt (k + 6) (op_ o (lt_ a) (lt_ b)) = some (fl (txt a) o (txt b)) :=
  pt_two (k + 3) _ _ _ n _ _ rfl rfl (hl _ (by omega)) (by omega) (bd_num (k + 2) a n ha.1 ha.2) (bd_num (k + 2) b (n + 1) hb.1 hb.2) (by have h1 := (txt_at a ha.1 ha.2).1; have h2 := (txt_at b hb.1 hb.2).1; show (txt a).size + o.size + (txt b).size + 2 ≤ _; omega)
/-- What is put of (a x b) y c. -/
theorem left_put (k : Nat) (x y : ByteArray) (n m a b c : Int) (hx : ∀ k, 3 ≤ k → expr_Level.f k x = some n) (hy : ∀ k, 3 ≤ k → expr_Level.f k y = some m) (hn : 1 ≤ n ∧ n ≤ 6) (hm : 1 ≤ m ∧ m ≤ 6) (sx : x.size ≤ 2) (sy : y.size ≤ 2) (ha : 0 ≤ a ∧ a ≤ 255) (hb : 0 ≤ b ∧ b ≤ 255) (hc : 0 ≤ c ∧ c ≤ 255) :
    Pt (k + 7) (op_ y (op_ x (lt_ a) (lt_ b)) (lt_ c)) = some (fl (if n < m then (lp ++ fl (txt a) x (txt b)) ++ rp else fl (txt a) x (txt b)) y (txt c)) := by
  have za := (txt_at a ha.1 ha.2).1
  have zb := (txt_at b hb.1 hb.2).1
  have zc := (txt_at c hc.1 hc.2).1
  have zf := fl_size (txt a) x (txt b)
  have hin := inner k x n a b hx hn sx ha hb
  have hkid : Bd (k + 4 + 2) (op_ x (lt_ a) (lt_ b)) m = some (if n < m then (lp ++ fl (txt a) x (txt b)) ++ rp else fl (txt a) x (txt b)) := by
    by_cases h : n < m
    · rw [if_pos h]
      exact bd_shut (k + 5) _ m n _ rfl (hx _ (by omega)) h hin (by omega)
    · rw [if_neg h]
      exact bd_open (k + 5) _ m n _ rfl (hx _ (by omega)) h hin
  refine pt_two (k + 4) _ _ _ m _ _ rfl rfl (hy _ (by omega)) (by omega) hkid (bd_num (k + 3) c (m + 1) hc.1 hc.2) ?_
  have zk : (if n < m then (lp ++ fl (txt a) x (txt b)) ++ rp else fl (txt a) x (txt b)).size ≤ 20 := by
    split
    · rw [br_size]; omega
    · omega
  show _ + y.size + (txt c).size + 2 ≤ _
  omega
/-- What is put of a x (b y c). -/
theorem right_put (k : Nat) (x y : ByteArray) (n m a b c : Int) (hx : ∀ k, 3 ≤ k → expr_Level.f k x = some n) (hy : ∀ k, 3 ≤ k → expr_Level.f k y = some m) (hn : 1 ≤ n ∧ n ≤ 6) (hm : 1 ≤ m ∧ m ≤ 6) (sx : x.size ≤ 2) (sy : y.size ≤ 2) (ha : 0 ≤ a ∧ a ≤ 255) (hb : 0 ≤ b ∧ b ≤ 255) (hc : 0 ≤ c ∧ c ≤ 255) :
    Pt (k + 7) (op_ x (lt_ a) (op_ y (lt_ b) (lt_ c))) = some (fl (txt a) x (if m < n + 1 then (lp ++ fl (txt b) y (txt c)) ++ rp else fl (txt b) y (txt c))) := by
  have za := (txt_at a ha.1 ha.2).1
  have zb := (txt_at b hb.1 hb.2).1
  have zc := (txt_at c hc.1 hc.2).1
  have zf := fl_size (txt b) y (txt c)
  have hin := inner k y m b c hy hm sy hb hc
  have hkid : Bd (k + 4 + 2) (op_ y (lt_ b) (lt_ c)) (n + 1) = some (if m < n + 1 then (lp ++ fl (txt b) y (txt c)) ++ rp else fl (txt b) y (txt c)) := by
    by_cases h : m < n + 1
    · rw [if_pos h]
      exact bd_shut (k + 5) _ (n + 1) m _ rfl (hy _ (by omega)) h hin (by omega)
    · rw [if_neg h]
      exact bd_open (k + 5) _ (n + 1) m _ rfl (hy _ (by omega)) h hin
  refine pt_two (k + 4) _ _ _ n _ _ rfl rfl (hx _ (by omega)) (by omega) (bd_num (k + 3) a n ha.1 ha.2) hkid ?_
  have zk : (if m < n + 1 then (lp ++ fl (txt b) y (txt c)) ++ rp else fl (txt b) y (txt c)).size ≤ 20 := by
    split
    · rw [br_size]; omega
    · omega
  show (txt a).size + x.size + _ + 2 ≤ _
  omega
theorem wf8 {x : Int} (h : (Lit.int .u8 x).wf = true) : 0 ≤ x ∧ x ≤ 255 := by simpa [Lit.wf, IntKind.min, IntKind.max, IntKind.signed, IntKind.bits] using h
theorem bext {a b : ByteArray} (h : a.data.toList = b.data.toList) : a = b := Go.WideShapes.bytes_inj h
abbrev S1 : ByteArray := ⟨#[32]⟩
theorem e1 : (⟨#[32]⟩ : ByteArray).size = 1 := rfl
theorem e2 : (⟨#[40]⟩ : ByteArray).size = 1 := rfl
theorem e3 : (⟨#[41]⟩ : ByteArray).size = 1 := rfl
theorem e4 : (⟨#[32, 40]⟩ : ByteArray).size = 2 := rfl
theorem e5 : (⟨#[41, 32]⟩ : ByteArray).size = 2 := rfl
theorem ExprLevels : ∀ (a0 : Int) (a1 : Int) (a2 : Int) (a3 : Int) (a4 : Int), (Lit.int .u8 a0).wf = true → (Lit.int .u8 a1).wf = true → (Lit.int .u8 a2).wf = true → (Lit.int .u8 a3).wf = true → (Lit.int .u8 a4).wf = true → ∃ k, marshallinglaw07_ExprLevels.f k a0 a1 a2 a3 a4 = some true := by
  intro a0 a1 a b c w0 w1 w2 w3 w4
  have h0 := wf8 w0
  have h1 := wf8 w1
  have ha := wf8 w2
  have hb := wf8 w3
  have hc := wf8 w4
  clear w0 w1 w2 w3 w4
  refine ⟨60, ?_⟩
  have t0 : Int.tmod a0 13 = a0 % 13 := Int.tmod_eq_emod_of_nonneg h0.1
  have t1 : Int.tmod a1 13 = a1 % 13 := Int.tmod_eq_emod_of_nonneg h1.1
  obtain ⟨n, hn1, hn2, sx, hx⟩ := op_at (Int.tmod a0 13) (by omega) (by omega)
  obtain ⟨m, hm1, hm2, sy, hy⟩ := op_at (Int.tmod a1 13) (by omega) (by omega)
  have wa : wrap64 a = a := by unfold wrap64; omega
  have wb : wrap64 b = b := by unfold wrap64; omega
  have wc : wrap64 c = c := by unfold wrap64; omega
  unfold marshallinglaw07_ExprLevels.f
  rw [ex60]
  simp only [Option.bind_some]
  rw [if_pos trivial, show expr_Ops.f = some ops13 from rfl]
  simp only [Option.bind_some, wa, wb, wc, marshallinglaw07_lit.f, marshallinglaw07_two.f]
  rw [if_pos (by rfl), if_pos (by omega), if_pos (by show _ < (13 : Int); omega), if_pos (by omega), if_pos (by show _ < (13 : Int); omega)]
  generalize rdOf ByteArray.empty ops13 (Int.tmod a0 13) = X at sx hx ⊢
  generalize rdOf ByteArray.empty ops13 (Int.tmod a1 13) = Y at sy hy ⊢
  have za := (txt_at a ha.1 ha.2).1
  have zb := (txt_at b hb.1 hb.2).1
  have zc := (txt_at c hc.1 hc.2).1
  obtain ⟨ca, ra, da, nea⟩ := (txt_at a ha.1 ha.2).2
  obtain ⟨cb, rb, db, neb⟩ := (txt_at b hb.1 hb.2).2
  have hL := left_put 53 X Y n m a b c hx hy ⟨hn1, hn2⟩ ⟨hm1, hm2⟩ sx sy ha hb hc
  have hR := right_put 53 X Y n m a b c hx hy ⟨hn1, hn2⟩ ⟨hm1, hm2⟩ sx sy ha hb hc
  have pa : expr_Put.f 60 0 ⟨#[]⟩ 1 a ⟨#[]⟩ ⟨#[]⟩ ⟨#[]⟩ [] = some (txt a) := pt_num 57 a ha.1 ha.2
  have pb : expr_Put.f 60 0 ⟨#[]⟩ 1 b ⟨#[]⟩ ⟨#[]⟩ ⟨#[]⟩ [] = some (txt b) := pt_num 57 b hb.1 hb.2
  have pc : expr_Put.f 60 0 ⟨#[]⟩ 1 c ⟨#[]⟩ ⟨#[]⟩ ⟨#[]⟩ [] = some (txt c) := pt_num 57 c hc.1 hc.2
  have hL' : expr_Put.f 60 4 Y 0 0 ⟨#[]⟩ ⟨#[]⟩ ⟨#[]⟩ [(⟨4, X, ⟨0, 0, ⟨#[]⟩⟩, ⟨#[]⟩, ⟨#[]⟩, [(⟨0, ⟨#[]⟩, ⟨1, a, ⟨#[]⟩⟩, ⟨#[]⟩, ⟨#[]⟩, []⟩ : S26), (⟨0, ⟨#[]⟩, ⟨1, b, ⟨#[]⟩⟩, ⟨#[]⟩, ⟨#[]⟩, []⟩ : S26)]⟩ : S26), (⟨0, ⟨#[]⟩, ⟨1, c, ⟨#[]⟩⟩, ⟨#[]⟩, ⟨#[]⟩, []⟩ : S26)] = some (fl (if n < m then (lp ++ fl (txt a) X (txt b)) ++ rp else fl (txt a) X (txt b)) Y (txt c)) := hL
  have hR' : expr_Put.f 60 4 X 0 0 ⟨#[]⟩ ⟨#[]⟩ ⟨#[]⟩ [(⟨0, ⟨#[]⟩, ⟨1, a, ⟨#[]⟩⟩, ⟨#[]⟩, ⟨#[]⟩, []⟩ : S26), (⟨4, Y, ⟨0, 0, ⟨#[]⟩⟩, ⟨#[]⟩, ⟨#[]⟩, [(⟨0, ⟨#[]⟩, ⟨1, b, ⟨#[]⟩⟩, ⟨#[]⟩, ⟨#[]⟩, []⟩ : S26), (⟨0, ⟨#[]⟩, ⟨1, c, ⟨#[]⟩⟩, ⟨#[]⟩, ⟨#[]⟩, []⟩ : S26)]⟩ : S26)] = some (fl (txt a) X (if m < n + 1 then (lp ++ fl (txt b) Y (txt c)) ++ rp else fl (txt b) Y (txt c))) := hR
  rw [hL', hR', pa, pb, pc]
  clear hL hR hL' hR' pa pb pc
  simp only [Option.bind_some]
  generalize txt a = A at za da ⊢
  generalize txt b = B at zb db ⊢
  generalize txt c = C at zc ⊢
  iterate 8 rw [if_pos (by (try simp only [ByteArray.size_append, e1]); omega)]
  rw [hx 60 (by omega), hy 60 (by omega)]
  simp only [Option.bind_some]
  rw [if_pos hn1, if_pos hm2]
  by_cases h : n < m
  · have hL : (fl (if n < m then (lp ++ fl A X B) ++ rp else fl A X B) Y C).toList ≠ ((((((((A ++ (⟨#[32]⟩ : ByteArray)) ++ X) ++ (⟨#[32]⟩ : ByteArray)) ++ B) ++ (⟨#[32]⟩ : ByteArray)) ++ Y) ++ (⟨#[32]⟩ : ByteArray)) ++ C).toList := by
      refine list_ne fun e => ?_
      rw [if_pos h, fl_data, br_data] at e
      simp only [ByteArray.data_append, Array.toList_append, da, List.cons_append] at e
      injection e with e _
      exact nea e.symm
    have hR : (fl A X (if m < n + 1 then (lp ++ fl B Y C) ++ rp else fl B Y C)) = ((((((((A ++ (⟨#[32]⟩ : ByteArray)) ++ X) ++ (⟨#[32]⟩ : ByteArray)) ++ B) ++ (⟨#[32]⟩ : ByteArray)) ++ Y) ++ (⟨#[32]⟩ : ByteArray)) ++ C) := by
      rw [if_neg (by omega)]
      refine bext ?_
      simp [fl, sp, ByteArray.data_append]
    have hA : (fl (if n < m then (lp ++ fl A X B) ++ rp else fl A X B) Y C) = (((((((((⟨#[40]⟩ : ByteArray) ++ A) ++ (⟨#[32]⟩ : ByteArray)) ++ X) ++ (⟨#[32]⟩ : ByteArray)) ++ B) ++ (⟨#[41, 32]⟩ : ByteArray)) ++ Y) ++ (⟨#[32]⟩ : ByteArray)) ++ C := by
      rw [if_pos h]
      refine bext ?_
      simp [fl, sp, lp, rp, ByteArray.data_append]
    rw [hR]
    rw [if_pos (by rw [beq_eq_false_iff_ne.2 hL, decide_eq_false (show ¬ n ≥ m by omega)]; rfl), if_pos (by rw [beq_self_eq_true, decide_eq_true (show m > n from h)]; rfl), if_neg hL]
    iterate 9 rw [if_pos (by (try simp only [ByteArray.size_append, e1, e2, e5]); omega)]
    rw [if_pos (by rw [hA]), if_pos rfl]
  · have hL : (fl (if n < m then (lp ++ fl A X B) ++ rp else fl A X B) Y C) = ((((((((A ++ (⟨#[32]⟩ : ByteArray)) ++ X) ++ (⟨#[32]⟩ : ByteArray)) ++ B) ++ (⟨#[32]⟩ : ByteArray)) ++ Y) ++ (⟨#[32]⟩ : ByteArray)) ++ C) := by
      rw [if_neg h]
      rfl
    have hR : (fl A X (if m < n + 1 then (lp ++ fl B Y C) ++ rp else fl B Y C)).toList ≠ ((((((((A ++ (⟨#[32]⟩ : ByteArray)) ++ X) ++ (⟨#[32]⟩ : ByteArray)) ++ B) ++ (⟨#[32]⟩ : ByteArray)) ++ Y) ++ (⟨#[32]⟩ : ByteArray)) ++ C).toList := by
      refine list_ne fun e => ?_
      rw [if_pos (by omega), fl_data, br_data] at e
      simp only [ByteArray.data_append, Array.toList_append, db, List.append_assoc, List.cons_append, List.nil_append] at e
      have e := List.append_cancel_left e
      injection e with _ e
      have e := List.append_cancel_left e
      injection e with _ e
      injection e with e _
      exact neb e.symm
    have hA : (fl A X (if m < n + 1 then (lp ++ fl B Y C) ++ rp else fl B Y C)) = ((((((((A ++ (⟨#[32]⟩ : ByteArray)) ++ X) ++ (⟨#[32, 40]⟩ : ByteArray)) ++ B) ++ (⟨#[32]⟩ : ByteArray)) ++ Y) ++ (⟨#[32]⟩ : ByteArray)) ++ C) ++ (⟨#[41]⟩ : ByteArray) := by
      rw [if_pos (by omega)]
      refine bext ?_
      simp [fl, sp, lp, rp, ByteArray.data_append]
    rw [hL]
    rw [if_pos (by rw [beq_self_eq_true, decide_eq_true (show n ≥ m by omega)]; rfl), if_pos (by rw [beq_eq_false_iff_ne.2 hR, decide_eq_false (show ¬ m > n by omega)]; rfl), if_pos rfl, if_neg hR]
    iterate 7 rw [if_pos (by (try simp only [ByteArray.size_append, e1, e4]); omega)]
    rw [hA, beq_self_eq_true]
end Go.Proofs.YtccaodehgaaheaaDoor.Pure
