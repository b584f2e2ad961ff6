/- append of an element onto a row that is full (a cut with a capacity): a new row. -/
import Derived.Test.YtcfdnicnjhilkaaDoorWWords
import Derived.Test.YtcfdnicnjhilkaaDoorHelp
import Derived.ArgAppend
import Derived.Lib.OthersKept
namespace Go.Proofs.YtcfdnicnjhilkaaDoor.Full
set_option linter.unusedVariables false
set_option linter.unusedSimpArgs false
open Go.RowKit Go.Proofs.YtcfdnicnjhilkaaDoorW.PrintWords
/-- A cut of a whole row, with its length as its capacity. -/
theorem cut_full {P : Program} (t e : TypeId) {i : TypeInfo} (ht : P.underlying t = some (.slice e)) (hi : P.info? e = some i) (A : Option Addr) (n c : Nat) (hc : n ≤ c) (hm : n ≤ 9223372036854775807) :
    ∀ W : World, (Instr.slice t (.slice A n c) none (some (.int .i64 (n : Int))) (some (.int .i64 (n : Int)))).run P W = .ok (.slice A n n) W := by
  intro W
  have hel : P.elem t = e := by simp [Program.elem, ht]
  have hu : P.underlying t = some (.slice (P.elem t)) := by rw [hel]; exact ht
  have ha : (A.map fun x => x.add 0) = A := by cases A <;> simp [Addr.add]
  have h1 : (n : Int) ≤ (c : Int) := by omega
  have h0 : (0 : Int) ≤ (n : Int) := by omega
  have hn : ((n : Int)).toNat = n := Int.toNat_natCast n
  rw [run_slice_any W t A n c hu]
  simp [Instr.sliceBounds, run_sliceBound, sliced, Result.andThen, sizeOf, typeInfo, hel, hi, ha, h0, h1, hn, hc]
theorem own_lower {w : World} {b b' : Nat} {e size : Nat} {v : Value} {n : Nat} {xs : List Value} (h : w.ownsRow b e size v n xs) (hb : b' ≤ b) : w.ownsRow b' e size v n xs := by
  obtain ⟨h1, h2⟩ := h
  refine ⟨h1, ?_⟩
  rcases h2 with h2 | ⟨g, cap, cur, e1, e2, r⟩
  · exact .inl h2
  · exact .inr ⟨g, cap, cur, e1, by omega, r⟩
/-- append of one element onto a row that is read, and is full: a new row. -/
theorem run_full {P : Program} {α : Type} (d : Kd α) {w0 W : World} (base : Nat) (t e ty : TypeId) (z : Value) (bytes : Nat)
    (ht : P.underlying t = some (.slice e)) (hinfo : (P.info? e).map (fun i => (i.zero, i.size, i.bytes)) = some (some z, d.sz, bytes)) (hz : z.cells.size = d.sz) (hs0 : 0 < d.sz) (hb0 : 0 < bytes)
    (A : Option Addr) (xs : List α) (p : α) (cs : List Value) (ok : Nat → Prop) (HC : d.C W A xs.length xs) (hCM : ∀ x c, d.K W x c → d.M W base (fun _ => False) x c) (hp : d.M W base (fun _ => False) p cs) (hfresh : ∀ k, W.heap.size ≤ k → ok k)
    (HB : Below base w0 W) (hbase : base ≤ W.heap.size) (hl : (xs.length + 1) * bytes ≤ 140737488355328) :
    ∃ v1 w1, (Builtin.append_ #[t, t] ty #[.slice A xs.length xs.length, .slice (some ⟨W.heap.size, 0, none⟩) 1 1]).run P (W.alloc (.cells cs.toArray e)) = .ok v1 w1 ∧ d.R e w1 base ok v1 (xs ++ [p]) ∧ Below base w0 w1 ∧ W.grownBy w1 none ∧ ∃ b, v1.ownBlock = some b ∧ W.heap.size ≤ b := by
  obtain ⟨i0, hi, hzz⟩ := Option.map_eq_some_iff.1 hinfo
  simp only [Prod.mk.injEq] at hzz
  obtain ⟨hz0, hz1, hz2⟩ := hzz
  have hlen : xs.length + 1 ≤ 140737488355328 := Nat.le_trans (Nat.le_mul_of_pos_right _ hb0) hl
  have hcs := d.K_len (d.K_of_M hp)
  have hone := d.K_one (d.K_of_M hp)
  have hnews : ∀ (j : Nat) (u : Value), cs[j]? = some u → (W.alloc (.cells cs.toArray e)).cell? ((⟨W.heap.size, 0, none⟩ : Addr).add j) = some u := by
    simpa using World.news_of_block (cs := cs.toArray) (t := e) (fr := (0, 0)) (heap_alloc_new W (.cells cs.toArray e))
  -- the old cells, and what they are
  obtain ⟨olds, hrep, hcells⟩ : ∃ olds, Reps (d.K W) d.sz xs olds ∧ ∀ b, A = some b → ∀ j u, olds[j]? = some u → W.cell? (b.add j) = some u := by
    rcases A with _ | ad
    · have h0 : xs.length = 0 := by
        rcases Nat.eq_zero_or_pos xs.length with h0 | h0
        · exact h0
        · obtain ⟨ad, h, _⟩ := HC.2.2 h0; cases h
      obtain rfl := List.eq_nil_of_length_eq_zero h0
      exact ⟨[], ⟨by simp, fun j q hj => by simp at hj⟩, fun b hb => by cases hb⟩
    · obtain ⟨inner, h1, h2⟩ := ReadsRow.inner_ HC
      exact ⟨inner, h1, fun b hb => by cases hb; exact h2⟩
  have holdl : olds.length = xs.length * d.sz := hrep.1
  have hfin : ∀ v1 w1, w1.ownsRow (W.alloc (.cells cs.toArray e)).heap.size e d.sz v1 (xs.length + 1) (olds ++ cs) → (W.alloc (.cells cs.toArray e)).grownBy w1 none → d.R e w1 base ok v1 (xs ++ [p]) ∧ Below base w0 w1 ∧ W.grownBy w1 none ∧ ∃ b, v1.ownBlock = some b ∧ W.heap.size ≤ b := by
    intro v1 w1 hown hg
    have hg2 : W.grownBy w1 none := World.grownBy.trans (World.grownBy_alloc W _ none) hg
    have hat : ∃ b, v1.ownBlock = some b ∧ W.heap.size ≤ b := by
      rcases hown.2 with ⟨_, h⟩ | ⟨g, cap, cur, rfl, hb, _⟩
      · omega
      · exact ⟨g, rfl, by rw [World.size_alloc] at hb; omega⟩
    refine ⟨?_, (HB.alloc hbase _).grown hg (by rw [World.size_alloc]; omega) (fun k hk => by cases hk), hg2, hat⟩
    refine Kd.R_appended (v := .slice none 0 0) (okp := fun _ => False) (fun k hk => by simp [Value.ownBlock] at hk) (hrep.imp_ (fun q c hq => d.M_mono (fun k hk => hk.elim) (hCM q c hq))) hp (fun k hk => hk.elim) hfresh (own_lower hown (by rw [World.size_alloc]; omega)) hg2 (.inr hat)
  have hm : xs.length + 1 ≤ maxLen := by simp only [maxLen]; omega
  rcases A with _ | ad
  · have h0 : xs.length = 0 := by
      rcases Nat.eq_zero_or_pos xs.length with h0 | h0
      · exact h0
      · obtain ⟨ad, h, _⟩ := HC.2.2 h0; cases h
    obtain rfl := List.eq_nil_of_length_eq_zero h0
    obtain rfl : olds = [] := List.eq_nil_of_length_eq_zero (by simpa using holdl)
    obtain ⟨v1, w1, hrun, r1, r2, _⟩ := run_append_own (P := P) (W.alloc (.cells cs.toArray e)) (W.alloc (.cells cs.toArray e)).heap.size t ty e i0 z d.sz bytes ht hi hz0 hz1 hz2 hz hs0 (.slice none 0 0) 0 [] (World.ownsRow_nil _ _ e d.sz) ⟨W.heap.size, 0, none⟩ 1 1 cs (by rw [hcs]; simp) hnews hone (by simpa using hm) (by simpa using hl) (Nat.le_refl _)
    exact ⟨v1, w1, hrun, hfin v1 w1 (by simpa using r1) r2⟩
  · obtain ⟨v1, w1, hrun, r1, r2⟩ := run_append_arg_grows (P := P) (W.alloc (.cells cs.toArray e)) t ty e i0 z d.sz bytes ht hi hz0 hz1 hz2 hz hs0 ad xs.length xs.length olds holdl (fun j u hu => by
      have h := hcells ad rfl j u hu
      exact Lib.cell?_alloc_some _ h) ⟨W.heap.size, 0, none⟩ 1 1 cs (by rw [hcs]; simp) hnews (by omega) hm hl
    exact ⟨v1, w1, hrun, hfin v1 w1 r1 r2⟩
/-- append of a row onto a row that is read, and is full: a new row. -/
theorem run_full_rows {P : Program} {α : Type} (d : Kd α) {Rr : α → List Value → Prop} {w0 W : World} (base : Nat) (t e ty : TypeId) (z : Value) (bytes : Nat)
    (ht : P.underlying t = some (.slice e)) (hinfo : (P.info? e).map (fun i => (i.zero, i.size, i.bytes)) = some (some z, d.sz, bytes)) (hz : z.cells.size = d.sz) (hs0 : 0 < d.sz) (hb0 : 0 < bytes)
    (A : Option Addr) (xs ys : List α) (B : Option Addr) (m c : Nat) (ok : Nat → Prop) (HC : d.C W A xs.length xs) (HR : ReadsRow Rr d.sz W B m ys) (h0m : 0 < m) (hCM : ∀ x c, d.K W x c → d.M W base (fun _ => False) x c) (hKM : ∀ x c, Rr x c → d.M W base (fun _ => False) x c) (hfresh : ∀ k, W.heap.size ≤ k → ok k)
    (HB : Below base w0 W) (hbase : base ≤ W.heap.size) (hl : (xs.length + m) * bytes ≤ 140737488355328) :
    ∃ v1 w1, (Builtin.append_ #[t, t] ty #[.slice A xs.length xs.length, .slice B m c]).run P W = .ok v1 w1 ∧ d.R e w1 base ok v1 (xs ++ ys) ∧ Below base w0 w1 ∧ W.grownBy w1 none ∧ ∃ b, v1.ownBlock = some b ∧ W.heap.size ≤ b := by
  obtain ⟨i0, hi, hzz⟩ := Option.map_eq_some_iff.1 hinfo
  simp only [Prod.mk.injEq] at hzz
  obtain ⟨hz0, hz1, hz2⟩ := hzz
  have hm : ys.length = m := HR.1
  have hlen : xs.length + m ≤ 140737488355328 := Nat.le_trans (Nat.le_mul_of_pos_right _ hb0) hl
  obtain ⟨ad, rfl, _⟩ := HR.2.2 h0m
  obtain ⟨news, hnr, hnc⟩ := ReadsRow.inner_ HR
  have hnM : Reps (d.M W base (fun _ => False)) d.sz ys news := hnr.imp_ (fun p c hp => hKM p c hp)
  have hnl : news.length = m * d.sz := by rw [hnM.1, hm]
  have hone : ∀ u ∈ news, u.oneCell' = true := by
    intro u hu
    obtain ⟨q, hq, rfl⟩ := List.mem_iff_getElem.1 hu
    have hql : q / d.sz < ys.length := by
      rw [Nat.div_lt_iff_lt_mul hs0]
      rw [← hnM.1]
      exact hq
    have hc := hnM.2 (q / d.sz) _ (List.getElem?_eq_getElem hql)
    refine d.K_one (d.K_of_M hc) _ ?_
    rw [List.mem_iff_getElem?]
    refine ⟨q % d.sz, ?_⟩
    rw [List.getElem?_take, if_pos (Nat.mod_lt _ hs0), List.getElem?_drop, Nat.mul_comm, Nat.div_add_mod, List.getElem?_eq_getElem hq]
  obtain ⟨olds, hrep, hcells⟩ : ∃ olds, Reps (d.K W) d.sz xs olds ∧ ∀ b, A = some b → ∀ j u, olds[j]? = some u → W.cell? (b.add j) = some u := by
    rcases A with _ | ad
    · have h0 : xs.length = 0 := by
        rcases Nat.eq_zero_or_pos xs.length with h0 | h0
        · exact h0
        · obtain ⟨ad, h, _⟩ := HC.2.2 h0; cases h
      obtain rfl := List.eq_nil_of_length_eq_zero h0
      exact ⟨[], ⟨by simp, fun j q hj => by simp at hj⟩, fun b hb => by cases hb⟩
    · obtain ⟨inner, h1, h2⟩ := ReadsRow.inner_ HC
      exact ⟨inner, h1, fun b hb => by cases hb; exact h2⟩
  have holdl : olds.length = xs.length * d.sz := hrep.1
  have hfin : ∀ v1 w1, w1.ownsRow W.heap.size e d.sz v1 (xs.length + m) (olds ++ news) → W.grownBy w1 none → d.R e w1 base ok v1 (xs ++ ys) ∧ Below base w0 w1 ∧ W.grownBy w1 none ∧ ∃ b, v1.ownBlock = some b ∧ W.heap.size ≤ b := by
    intro v1 w1 hown hg
    have hat : ∃ b, v1.ownBlock = some b ∧ W.heap.size ≤ b := by
      rcases hown.2 with ⟨_, h⟩ | ⟨g, cap, cur, rfl, hb, _⟩
      · omega
      · exact ⟨g, rfl, hb⟩
    have mv : ∀ q c, d.M W base (fun _ => False) q c → d.M w1 base (fun k => ok k ∧ some k ≠ v1.ownBlock) q c := fun q c hq => d.M_mono (fun k hk => hk.elim) (d.M_move (w1 := w1) (fun k hk => hk.elim) hq)
    refine ⟨⟨fun k hk => ?_, olds ++ news, by rw [List.length_append, hm]; exact own_lower hown hbase, Kd.reps_append (hrep.imp_ (fun q c hq => mv q c (hCM q c hq))) (hnM.imp_ mv)⟩, HB.grown hg hbase (fun k hk => by cases hk), hg, hat⟩
    obtain ⟨b, hb, hle⟩ := hat
    rw [hb] at hk
    injection hk with hk
    exact hfresh k (by omega)
  have hmx : xs.length + m ≤ maxLen := by simp only [maxLen]; omega
  rcases A with _ | ad2
  · have h0 : xs.length = 0 := by
      rcases Nat.eq_zero_or_pos xs.length with h0 | h0
      · exact h0
      · obtain ⟨ad, h, _⟩ := HC.2.2 h0; cases h
    obtain rfl := List.eq_nil_of_length_eq_zero h0
    obtain rfl : olds = [] := List.eq_nil_of_length_eq_zero (by simpa using holdl)
    obtain ⟨v1, w1, hrun, r1, r2, _⟩ := run_append_own (P := P) W W.heap.size t ty e i0 z d.sz bytes ht hi hz0 hz1 hz2 hz hs0 (.slice none 0 0) 0 [] (World.ownsRow_nil _ _ e d.sz) ad m c news hnl hnc hone (by simpa using hmx) (by simpa using hl) (Nat.le_refl _)
    exact ⟨v1, w1, hrun, hfin v1 w1 (by simpa using r1) r2⟩
  · obtain ⟨v1, w1, hrun, r1, r2⟩ := run_append_arg_grows (P := P) W t ty e i0 z d.sz bytes ht hi hz0 hz1 hz2 hz hs0 ad2 xs.length xs.length olds holdl (fun j u hu => hcells ad2 rfl j u hu) ad m c news hnl hnc (by omega) hmx hl
    exact ⟨v1, w1, hrun, hfin v1 w1 r1 r2⟩
section
variable {P : Program} {ops : Array Oper} {rest : List Oper} {o : Oper} {a : Act} {Q : Exit → Act → World → Prop} {Kc : Act → World → Prop} {α : Type}
theorem R_full (d : Kd α) {w0 W : World} (base : Nat) (hgd : o.guard = none) (s x : Operand) (t e : TypeId) (z : Value) (bytes : Nat)
    (ho : o.op = .call { callee := .builtin .append, args := #[s, x], argTypes := #[t, t] })
    (ht : P.underlying t = some (.slice e)) (hinfo : (P.info? e).map (fun i => (i.zero, i.size, i.bytes)) = some (some z, d.sz, bytes)) (hz : z.cells.size = d.sz) (hs0 : 0 < d.sz) (hb0 : 0 < bytes)
    (A : Option Addr) (xs : List α) (p : α) (cs : List Value) (ok : Nat → Prop) (hs : a.eval s = .slice A xs.length xs.length) (hx : a.eval x = .slice (some ⟨W.heap.size, 0, none⟩) 1 1) (HC : d.C W A xs.length xs) (hCM : ∀ x c, d.K W x c → d.M W base (fun _ => False) x c) (hp : d.M W base (fun _ => False) p cs) (hfresh : ∀ k, W.heap.size ≤ k → ok k)
    (HB : Below base w0 W) (hbase : base ≤ W.heap.size) (hl : (xs.length + 1) * bytes ≤ 140737488355328)
    (h : ∀ v1 w1, d.R e w1 base ok v1 (xs ++ [p]) → Below base w0 w1 → W.grownBy w1 (Value.slice none 0 0).ownBlock → (v1.ownBlock = (Value.slice none 0 0).ownBlock ∨ ∃ b, v1.ownBlock = some b ∧ W.heap.size ≤ b) → wpList P ops Q rest (a.put o.dst v1) w1) :
    wpList P ops Q (o :: rest) a (W.alloc (.cells cs.toArray e)) := by
  obtain ⟨v1, w1, hrun, r1, r2, r3, r4⟩ := run_full (P := P) d base t e o.type z bytes ht hinfo hz hs0 hb0 A xs p cs ok HC hCM hp hfresh HB hbase hl
  refine wpList_plain hgd fun K hK => ?_
  unfold Oper.wp
  simp [execOp, ho, resolve, invoke, builtin, hs, hx, hrun, Result.andThen]
  exact hK _ _ (h v1 w1 r1 r2 r3 (.inr r4))
theorem R_full_step (d : Kd α) {w0 W : World} (base : Nat) (hw : Region.wanted o (yielded ops a.tmps) = true) (s x : Operand) (t e : TypeId) (z : Value) (bytes : Nat)
    (ho : o.op = .call { callee := .builtin .append, args := #[s, x], argTypes := #[t, t] })
    (ht : P.underlying t = some (.slice e)) (hinfo : (P.info? e).map (fun i => (i.zero, i.size, i.bytes)) = some (some z, d.sz, bytes)) (hz : z.cells.size = d.sz) (hs0 : 0 < d.sz) (hb0 : 0 < bytes)
    (A : Option Addr) (xs : List α) (p : α) (cs : List Value) (ok : Nat → Prop) (hs : a.eval s = .slice A xs.length xs.length) (hx : a.eval x = .slice (some ⟨W.heap.size, 0, none⟩) 1 1) (HC : d.C W A xs.length xs) (hCM : ∀ x c, d.K W x c → d.M W base (fun _ => False) x c) (hp : d.M W base (fun _ => False) p cs) (hfresh : ∀ k, W.heap.size ≤ k → ok k)
    (HB : Below base w0 W) (hbase : base ≤ W.heap.size) (hl : (xs.length + 1) * bytes ≤ 140737488355328)
    (h : ∀ v1 w1, d.R e w1 base ok v1 (xs ++ [p]) → Below base w0 w1 → W.grownBy w1 (Value.slice none 0 0).ownBlock → (v1.ownBlock = (Value.slice none 0 0).ownBlock ∨ ∃ b, v1.ownBlock = some b ∧ W.heap.size ≤ b) → Kc (a.put o.dst v1) w1) :
    if Region.wanted o (yielded ops a.tmps) = true then Oper.wp P o a (W.alloc (.cells cs.toArray e)) Kc Q else Kc (a.put o.dst undef) (W.alloc (.cells cs.toArray e)) := by
  obtain ⟨v1, w1, hrun, r1, r2, r3, r4⟩ := run_full (P := P) d base t e o.type z bytes ht hinfo hz hs0 hb0 A xs p cs ok HC hCM hp hfresh HB hbase hl
  rw [if_pos hw]
  unfold Oper.wp
  simp [execOp, ho, resolve, invoke, builtin, hs, hx, hrun, Result.andThen]
  exact h v1 w1 r1 r2 r3 (.inr r4)
theorem R_full_rows (d : Kd α) {Rr : α → List Value → Prop} {w0 W : World} (base : Nat) (hgd : o.guard = none) (s x : Operand) (t e : TypeId) (z : Value) (bytes : Nat)
    (ho : o.op = .call { callee := .builtin .append, args := #[s, x], argTypes := #[t, t] })
    (ht : P.underlying t = some (.slice e)) (hinfo : (P.info? e).map (fun i => (i.zero, i.size, i.bytes)) = some (some z, d.sz, bytes)) (hz : z.cells.size = d.sz) (hs0 : 0 < d.sz) (hb0 : 0 < bytes)
    (A : Option Addr) (xs ys : List α) (B : Option Addr) (m c : Nat) (ok : Nat → Prop) (hs : a.eval s = .slice A xs.length xs.length) (hx : a.eval x = .slice B m c) (HC : d.C W A xs.length xs) (HR : ReadsRow Rr d.sz W B m ys) (h0m : 0 < m) (hCM : ∀ x c, d.K W x c → d.M W base (fun _ => False) x c) (hKM : ∀ x c, Rr x c → d.M W base (fun _ => False) x c) (hfresh : ∀ k, W.heap.size ≤ k → ok k)
    (HB : Below base w0 W) (hbase : base ≤ W.heap.size) (hl : (xs.length + m) * bytes ≤ 140737488355328)
    (h : ∀ v1 w1, d.R e w1 base ok v1 (xs ++ ys) → Below base w0 w1 → W.grownBy w1 (Value.slice none 0 0).ownBlock → (v1.ownBlock = (Value.slice none 0 0).ownBlock ∨ ∃ b, v1.ownBlock = some b ∧ W.heap.size ≤ b) → wpList P ops Q rest (a.put o.dst v1) w1) :
    wpList P ops Q (o :: rest) a W := by
  obtain ⟨v1, w1, hrun, r1, r2, r3, r4⟩ := run_full_rows (P := P) d base t e o.type z bytes ht hinfo hz hs0 hb0 A xs ys B m c ok HC HR h0m hCM hKM hfresh HB hbase hl
  refine wpList_plain hgd fun K hK => ?_
  unfold Oper.wp
  simp [execOp, ho, resolve, invoke, builtin, hs, hx, hrun, Result.andThen]
  exact hK _ _ (h v1 w1 r1 r2 r3 (.inr r4))
theorem R_full_rows_step (d : Kd α) {Rr : α → List Value → Prop} {w0 W : World} (base : Nat) (hw : Region.wanted o (yielded ops a.tmps) = true) (s x : Operand) (t e : TypeId) (z : Value) (bytes : Nat)
    (ho : o.op = .call { callee := .builtin .append, args := #[s, x], argTypes := #[t, t] })
    (ht : P.underlying t = some (.slice e)) (hinfo : (P.info? e).map (fun i => (i.zero, i.size, i.bytes)) = some (some z, d.sz, bytes)) (hz : z.cells.size = d.sz) (hs0 : 0 < d.sz) (hb0 : 0 < bytes)
    (A : Option Addr) (xs ys : List α) (B : Option Addr) (m c : Nat) (ok : Nat → Prop) (hs : a.eval s = .slice A xs.length xs.length) (hx : a.eval x = .slice B m c) (HC : d.C W A xs.length xs) (HR : ReadsRow Rr d.sz W B m ys) (h0m : 0 < m) (hCM : ∀ x c, d.K W x c → d.M W base (fun _ => False) x c) (hKM : ∀ x c, Rr x c → d.M W base (fun _ => False) x c) (hfresh : ∀ k, W.heap.size ≤ k → ok k)
    (HB : Below base w0 W) (hbase : base ≤ W.heap.size) (hl : (xs.length + m) * bytes ≤ 140737488355328)
    (h : ∀ v1 w1, d.R e w1 base ok v1 (xs ++ ys) → Below base w0 w1 → W.grownBy w1 (Value.slice none 0 0).ownBlock → (v1.ownBlock = (Value.slice none 0 0).ownBlock ∨ ∃ b, v1.ownBlock = some b ∧ W.heap.size ≤ b) → Kc (a.put o.dst v1) w1) :
    if Region.wanted o (yielded ops a.tmps) = true then Oper.wp P o a W Kc Q else Kc (a.put o.dst undef) W := by
  obtain ⟨v1, w1, hrun, r1, r2, r3, r4⟩ := run_full_rows (P := P) d base t e o.type z bytes ht hinfo hz hs0 hb0 A xs ys B m c ok HC HR h0m hCM hKM hfresh HB hbase hl
  rw [if_pos hw]
  unfold Oper.wp
  simp [execOp, ho, resolve, invoke, builtin, hs, hx, hrun, Result.andThen]
  exact h v1 w1 r1 r2 r3 (.inr r4)
end
end Go.Proofs.YtcfdnicnjhilkaaDoor.Full
