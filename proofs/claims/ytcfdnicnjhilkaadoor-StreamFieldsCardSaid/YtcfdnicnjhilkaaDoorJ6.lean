-- Written by this session's program mprint.py over the kit's printer (with hand-written contracts laid in). Not trusted: Lean checks it.
import Derived.Test.YtcfdnicnjhilkaaDoorJ0
import Derived.Test.YtcfdnicnjhilkaaDoorJ1
import Derived.Test.YtcfdnicnjhilkaaDoorJ5
namespace Go.Proofs.YtcfdnicnjhilkaaDoor.J
open Go.RowKit Go.Proofs.YtcfdnicnjhilkaaDoorW.PrintWords Go.Proofs.YtcfdnicnjhilkaaDoorW.PrintLast Go.Proofs.YtcfdnicnjhilkaaDoorW.PrintMore
attribute [local go_sem] max2_int min2_int max_two min_two max_three min_three max_four min_four   -- for this text's walks alone
set_option linter.unusedVariables false
set_option linter.unusedSimpArgs false

attribute [local go_sem high] eqA60
/-! ### stream_Right: function 22 -/

def stream_Right.go (k : Nat) : List (List UInt8) → List S60 → Option Int
  | _, [] => some 0
  | done, x :: r => if x.f0.size ≤ 9223372036854775807 then ((stream_IsName.f k x.f0).bind fun b => if b = true then (if x.f1 < 1 then some 6 else if x.f1 > 3 then some 6 else if done.contains x.f0.data.toList = true then some 11 else stream_Right.go k (done ++ [x.f0.data.toList]) r) else some 5) else none
def stream_Right.f (k : Nat) (a0_0 : ByteArray) (l0_1 : List (S60)) : Option Int :=
  (stream_IsName.f k a0_0).bind fun b => if b = true then (if l0_1.length > 6 then some 4 else stream_Right.go k [] l0_1) else some 5
theorem stream_Right.mono_go (k : Nat) : ∀ (l : List S60) (done : List (List UInt8)), LeO (stream_Right.go k done l) (stream_Right.go (k + 1) done l)
  | [], _ => LeO.refl _
  | x :: r, done => by
    unfold stream_Right.go
    refine LeO.ite (LeO.bind (stream_IsName.mono _ _) (fun _ => LeO.ite (LeO.ite (LeO.refl _) (LeO.ite (LeO.refl _) (LeO.ite (LeO.refl _) (stream_Right.mono_go k r _)))) (LeO.refl _))) (LeO.none _)
theorem stream_Right.mono : ∀ a0 a1 k, LeO (stream_Right.f k a0 a1) (stream_Right.f (k + 1) a0 a1) := fun a0 a1 k => by
  unfold stream_Right.f
  exact LeO.bind (stream_IsName.mono _ _) (fun _ => LeO.ite (LeO.ite (LeO.refl _) (stream_Right.mono_go k a1 [])) (LeO.refl _))
/-- How a field in the map reads. -/
def fieldR (v : Value) : Option (DataW Unit × List MemPlace) :=
  match v with
  | .agg cs => match cs.toList with
    | [.string s, .int .i64 k] => some (.agg [.lit (.string s.data.toList), .lit (.int .i64 k)], [])
    | _ => none
  | _ => none
def fieldD (nm : List UInt8) (k : Int) : DataW Unit := .agg [.lit (.string nm), .lit (.int .i64 k)]
theorem fieldR_inv {v : Value} {nm : List UInt8} {k : Int} {ps : List MemPlace} (h : fieldR v = some (fieldD nm k, ps)) : v = .agg #[.string ⟨nm.toArray⟩, .int .i64 k] := by
  unfold fieldR at h
  split at h
  · rename_i cs
    split at h
    · rename_i s k' e
      simp only [Option.some.injEq, Prod.mk.injEq, fieldD, DataW.agg.injEq, List.cons.injEq, DataW.lit.injEq, Lit.string.injEq, Lit.int.injEq, and_true, true_and] at h
      obtain ⟨⟨rfl, rfl⟩, _⟩ := h
      obtain rfl : cs = #[.string s, .int .i64 k'] := by rw [← e]
      rfl
    · cases h
  · cases h
/-- What the map holds behind some fields: a field that bears its key, at the names that were met. -/
structure MapInv (D : DataW Unit) (done : List (List UInt8)) : Prop where
  map : Maps.IsMap D
  met : ∀ nm, nm ∈ done → ∃ k, 1 ≤ k ∧ D.atKey (.string nm) (fieldD [] 0) = fieldD nm k
  not : ∀ nm, nm ∉ done → D.atKey (.string nm) (fieldD [] 0) = fieldD [] 0
theorem MapInv.nil : MapInv (.map []) [] := ⟨⟨_, rfl⟩, fun _ h => by simp at h, fun _ _ => rfl⟩
theorem MapInv.put {D : DataW Unit} {done : List (List UInt8)} (h : MapInv D done) (nm : List UInt8) (k : Int) (hk : 1 ≤ k) : MapInv (D.put (.string nm) (fieldD nm k)) (done ++ [nm]) := by
  refine ⟨h.map.put _ _, fun x hx => ?_, fun x hx => ?_⟩
  · by_cases e : x = nm
    · subst e
      exact ⟨k, hk, Maps.atKey_put_same h.map (show WideAt.IsKeyLit (.string x) from trivial) _ _⟩
    · obtain ⟨k', h1, h2⟩ := h.met x (by simpa [e] using hx)
      exact ⟨k', h1, by rw [Maps.atKey_put_other (by simpa using e), h2]⟩
  · have e : x ≠ nm := fun e => hx (by simp [e])
    rw [Maps.atKey_put_other (by simpa using e)]
    exact h.not x (fun h' => hx (by simp [h']))
attribute [local go_sem high] eqA60
theorem stream_Right.law9 : Maps.Keyed Tryd.prog 9 := Maps.string_keyed Tryd.underlying9
theorem stream_Right.zero60 (w : World) : (zeroValue 60).run Tryd.prog w = .ok (.agg #[.string ⟨#[]⟩, .int .i64 0]) w := by kernel_rfl
set_option maxHeartbeats 4000000 in
set_option maxRecDepth 100000 in
theorem stream_Right.calls (k : Nat) (a0_0 : ByteArray) (A0_1 : Option Addr) (c0_1 : Nat) (l0_1 : List (S60)) (r : Int) (w : World) (hr0_1 : Kd.C k60 w A0_1 l0_1.length l0_1) (hc0_1 : l0_1.length ≤ c0_1) (hG : Glob w) (h : stream_Right.f k a0_0 l0_1 = some r) :
    Calls Tryd.prog 22 #[.agg #[.string a0_0, .slice A0_1 l0_1.length c0_1]] w fun e w' => e = .returned (.int .i64 r) ∧ Below w.heap.size w w' := by
  have hu28 := Tryd.underlying28
  have hu60 := Tryd.underlying60
  have hmm := @run_makeMap Tryd.prog
  have hmax := Kd.C_max hr0_1
  have HR := Aside0.mk hr0_1
  have HG := Aside0.mk hG
  clear hr0_1 hG
  unfold stream_Right.f at h
  obtain ⟨b, hb, h⟩ := Option.bind_eq_some_iff.1 h
  have HN := Aside0.mk hb
  clear hb
  cases b with
  | false =>
    obtain rfl := Option.some.inj h
    go_enter Tryd.func22, Tryd.ntmps22
    go_wp2_with (go_at_call 16; refine (stream_IsName.calls k a0_0 false _ (Glob.below HG.out (below_alloc (Below.refl _ _) _)) HN.out).mono ?_; rintro e w1 ⟨rfl, hb1⟩; have HB1 := Aside0.mk hb1; clear hb1)
    go_ret
    exact ⟨rfl, (below_alloc (Below.refl _ _) _).trans (HB1.out.mono (by simp))⟩
  | true =>
    simp only [if_true] at h
    by_cases hl : l0_1.length > 6
    · rw [if_pos hl] at h
      have hl2 : decide (6 < l0_1.length) = true := decide_eq_true hl
      obtain rfl := Option.some.inj h
      go_enter Tryd.func22, Tryd.ntmps22
      go_wp2_with (go_at_call 16; refine (stream_IsName.calls k a0_0 true _ (Glob.below HG.out (below_alloc (Below.refl _ _) _)) HN.out).mono ?_; rintro e w1 ⟨rfl, hb1⟩; have hx1 : w1.cell? ⟨w.heap.size, 1, none⟩ = some (.slice A0_1 l0_1.length c0_1) := pw_cell_below hb1 (by simp); have HB1 := Aside0.mk hb1; clear hb1)
      go_ret
      exact ⟨rfl, (below_alloc (Below.refl _ _) _).trans (HB1.out.mono (by simp))⟩
    · rw [if_neg hl] at h
      have hl2 : decide (6 < l0_1.length) = false := decide_eq_false hl
      have H := Aside0.mk h
      clear h
      go_enter Tryd.func22, Tryd.ntmps22
      go_wp2_with (go_at_call 16; refine (stream_IsName.calls k a0_0 true _ (Glob.below HG.out (below_alloc (Below.refl _ _) _)) HN.out).mono ?_; rintro e w1 ⟨rfl, hb1⟩; have hx1 : w1.cell? ⟨w.heap.size, 1, none⟩ = some (.slice A0_1 l0_1.length c0_1) := pw_cell_below hb1 (by simp); have hx2 : ∀ o, (w1.alloc o).cell? ⟨w.heap.size, 1, none⟩ = some (.slice A0_1 l0_1.length c0_1) := fun o => Lib.cell?_alloc_some o hx1; have HB1 := Aside0.mk hb1; clear hb1)
      have hmb0 : w.heap.size ≤ w1.heap.size := ((below_alloc (Below.refl _ _) _).trans (HB1.out.mono (by simp)) : Below w.heap.size w w1).size
      generalize hmb : w1.heap.size = mb at hmb0
      go_loopg [20] l0_1.length (fun gg s20 wr => ∃ (kk : Nat) (D : DataW Unit) (done : List (List UInt8)), kk ≤ l0_1.length ∧ l0_1.length - kk ≤ gg ∧ s20 = .int .i64 kk ∧ Aside0 (Below w.heap.size w wr) ∧ Aside0 (wr.ownsMap Tryd.prog 9 fieldR mb kk D) ∧ Aside0 (MapInv D done) ∧ Aside0 (stream_Right.go k done (l0_1.drop kk) = some r))
      case atStart =>
        have hB1 : Below w.heap.size w w1 := (below_alloc (Below.refl _ _) _).trans (HB1.out.mono (by simp))
        exact ⟨0, .map [], [], Nat.zero_le _, by omega, rfl, ⟨hB1.alloc hB1.size _⟩, ⟨by rw [← hmb]; exact World.ownsMap_made w1 Tryd.prog 9 fieldR⟩, ⟨MapInv.nil⟩, H⟩
      case round =>
        clear hx1 hx2 HB1
        obtain ⟨kk, D, done, hkk, hg, rfl, HB, HM, HI, HL⟩ := hrel
        have hlm := HM.out.lt
        by_cases hlt : kk < l0_1.length
        · have hlt' : (kk : Int) < (l0_1.length : Int) := by omega
          have h0' : (0 : Int) ≤ (kk : Int) := by omega
          have hrw := Kd.C_below HR.out HB.out
          obtain ⟨ad, e1, hy0, hy1⟩ := at_T60 hrw kk h0' hlt'
          subst e1
          have hk : l0_1.drop kk = rd_T60 l0_1 kk :: l0_1.drop (kk + 1) := by
            rw [List.drop_eq_getElem_cons hlt]
            simp [rd_T60, hlt]
          generalize hy : rd_T60 l0_1 kk = y at hy0 hy1 hk
          simp only [Int.toNat_natCast] at hy0 hy1
          have hL := HL.out
          rw [hk] at hL
          clear hrw hy hk HL
          simp only [stream_Right.go] at hL
          by_cases hsz : y.f0.size ≤ 9223372036854775807
          · rw [if_pos hsz] at hL
            obtain ⟨b, hb, hL⟩ := Option.bind_eq_some_iff.1 hL
            have HN2 := Aside0.mk hb
            clear hb
            have hB1 : Below w.heap.size w (wr.alloc (.cells #[.string y.f0, .int .i64 y.f1] 60)) := HB.out.alloc HB.out.size _
            have HGW := Aside0.mk (Glob.below HG.out hB1)
            have HZ := Aside0.mk hB1
            clear hB1
            have key2 : ∀ w2, Below (wr.alloc (.cells #[.string y.f0, .int .i64 y.f1] 60)).heap.size (wr.alloc (.cells #[.string y.f0, .int .i64 y.f1] 60)) w2 →
                w2.cell? ⟨wr.heap.size, 0, none⟩ = some (.string y.f0) ∧ w2.cell? ⟨wr.heap.size, 1, none⟩ = some (.int .i64 y.f1) ∧ Aside0 (w2.ownsMap Tryd.prog 9 fieldR mb kk D) ∧ Aside0 (Below w.heap.size w w2) := fun w2 hb2 =>
              ⟨pw_cell_below hb2 (by simp), pw_cell_below hb2 (by simp), ⟨(HM.out.alloc _).kept (grown_of_below hb2 none) (by simp)⟩, ⟨HZ.out.trans (hb2.mono HZ.out.size)⟩⟩
            have KEY := Aside0.mk key2
            clear key2
            cases b with
            | false =>
              obtain rfl := Option.some.inj hL
              clear hL
              go_wp2_with (go_at_call 16; refine (stream_IsName.calls k y.f0 false _ HGW.out HN2.out).mono ?_; rintro e w2 ⟨rfl, hb2⟩; obtain ⟨hz0, hz1, HM2, HB2⟩ := KEY.out w2 hb2; clear hb2)
              go_ret
              exact ⟨rfl, HB2.out⟩
            | true =>
              simp only [if_true] at hL
              by_cases hlo : y.f1 < 1
              · rw [if_pos hlo] at hL
                have hlo2 : decide (y.f1 < 1) = true := decide_eq_true hlo
                obtain rfl := Option.some.inj hL
                clear hL hlo
                go_wp2_with (go_at_call 16; refine (stream_IsName.calls k y.f0 true _ HGW.out HN2.out).mono ?_; rintro e w2 ⟨rfl, hb2⟩; obtain ⟨hz0, hz1, HM2, HB2⟩ := KEY.out w2 hb2; clear hb2)
                go_ret
                exact ⟨rfl, HB2.out⟩
              · rw [if_neg hlo] at hL
                have hlo2 : decide (y.f1 < 1) = false := decide_eq_false hlo
                have HLO := Aside0.mk hlo
                clear hlo
                by_cases hhi : y.f1 > 3
                · rw [if_pos hhi] at hL
                  have hhi2 : decide (3 < y.f1) = true := decide_eq_true hhi
                  obtain rfl := Option.some.inj hL
                  clear hL hhi
                  go_wp2_with (go_at_call 16; refine (stream_IsName.calls k y.f0 true _ HGW.out HN2.out).mono ?_; rintro e w2 ⟨rfl, hb2⟩; obtain ⟨hz0, hz1, HM2, HB2⟩ := KEY.out w2 hb2; clear hb2)
                  go_ret
                  exact ⟨rfl, HB2.out⟩
                · rw [if_neg hhi] at hL
                  have hhi2 : decide (3 < y.f1) = false := decide_eq_false hhi
                  clear hhi
                  have hkey : keyOf Tryd.prog 9 (.string y.f0) = some (.string y.f0.data.toList) := _root_.Go.WideMaps.keyOf_string_mk Tryd.underlying9 hsz
                  have HKEY := Aside0.mk hkey
                  clear hkey
                  by_cases hmet : done.contains y.f0.data.toList = true
                  · rw [if_pos hmet] at hL
                    obtain rfl := Option.some.inj hL
                    clear hL
                    obtain ⟨q, hq1, hat⟩ := HI.out.met _ (List.contains_iff_mem.1 hmet)
                    have HAT := Aside0.mk hat
                    have hk0 : (q == 0) = false := by simp; omega
                    clear hmet hat
                    have key3 : ∀ w2, Aside0 (w2.ownsMap Tryd.prog 9 fieldR mb kk D) → (Instr.lookup 77 (.map (some mb)) (.string y.f0) false).run Tryd.prog w2 = .ok (.agg #[.string ⟨y.f0.data.toList.toArray⟩, .int .i64 q]) w2 := fun w2 hm => by
                      obtain ⟨v, ps, hrun, hv⟩ := hm.out.lookup stream_Right.law9 Tryd.underlying77 (stream_Right.zero60 _) (zd := fieldD [] 0) (zp := []) rfl HKEY.out
                      rw [HAT.out] at hv
                      rw [hrun, fieldR_inv hv]
                    have KEY3 := Aside0.mk key3
                    clear key3
                    go_wp2_with (go_at_call 16; refine (stream_IsName.calls k y.f0 true _ HGW.out HN2.out).mono ?_; rintro e w2 ⟨rfl, hb2⟩; obtain ⟨hz0, hz1, HM2, HB2⟩ := KEY.out w2 hb2; clear hb2; have hlk := KEY3.out w2 HM2)
                    go_ret
                    exact ⟨rfl, HB2.out⟩
                  · rw [if_neg hmet] at hL
                    have hnm : y.f0.data.toList ∉ done := fun h => hmet (List.contains_iff_mem.2 h)
                    have HL2 := Aside0.mk hL
                    have HAT := Aside0.mk (HI.out.not _ hnm)
                    clear hmet hnm hL
                    have key3 : ∀ w2, Aside0 (w2.ownsMap Tryd.prog 9 fieldR mb kk D) → (Instr.lookup 77 (.map (some mb)) (.string y.f0) false).run Tryd.prog w2 = .ok (.agg #[.string ⟨#[]⟩, .int .i64 0]) w2 := fun w2 hm => by
                      obtain ⟨v, ps, hrun, hv⟩ := hm.out.lookup stream_Right.law9 Tryd.underlying77 (stream_Right.zero60 _) (zd := fieldD [] 0) (zp := []) rfl HKEY.out
                      rw [HAT.out] at hv
                      rw [hrun, fieldR_inv hv]
                    have KEY3 := Aside0.mk key3
                    clear key3
                    go_wp2_with (first | (go_at_call 16; refine (stream_IsName.calls k y.f0 true _ HGW.out HN2.out).mono ?_; rintro e w2 ⟨rfl, hb2⟩; obtain ⟨hz0, hz1, HM2, HB2⟩ := KEY.out w2 hb2; clear hb2; have hlk := KEY3.out w2 HM2) | (at_mapUpdate; refine wpList_mapUpdate_own _ rfl _ _ _ 77 rfl 9 60 stream_Right.law9 Tryd.underlying77 fieldR mb kk D rfl HM2.out (by unfold maxLen; omega) _ _ _ rfl rfl HKEY.out (fieldD y.f0.data.toList y.f1) [] rfl ?_; intro w3 hown3 hgrow3; have HM3 := Aside0.mk hown3; have HG3 := Aside0.mk hgrow3; clear hown3 hgrow3))
                    go_roundg (l0_1.length - (kk + 1))
                    case measure => omega
                    case rel =>
                      exact ⟨kk + 1, _, done ++ [y.f0.data.toList], by omega, by omega, by go_num, ⟨HB2.out.grown HG3.out HB2.out.size (fun k hk => by cases hk; omega)⟩, HM3, ⟨HI.out.put _ _ (by have := HLO.out; omega)⟩, HL2⟩
          · rw [if_neg hsz] at hL
            cases hL
        · have hlt' : decide (kk < l0_1.length) = false := by simpa using hlt
          have hk : l0_1.drop kk = [] := List.drop_eq_nil_of_le (by omega)
          have hL := HL.out
          rw [hk] at hL
          obtain rfl := Option.some.inj hL
          clear hL hk HL
          go_wp2
          go_ret
          exact ⟨rfl, HB.out⟩

/-! ### strings_Cut: function 30 -/

def strings_Cut.f (a0 a1 : ByteArray) : Option (ByteArray × ByteArray × Bool) := if a0.size < 4294967281 then some (⟨(Lib.cut a0.data.toList a1.data.toList).1.toArray⟩, ⟨(Lib.cut a0.data.toList a1.data.toList).2.1.toArray⟩, (Lib.cut a0.data.toList a1.data.toList).2.2) else none
theorem strings_Cut.calls (a0 : ByteArray) (a1 : ByteArray) (r1 : ByteArray) (r2 : ByteArray) (r3 : Bool) (w : World) (hG : Glob w) (h : strings_Cut.f a0 a1 = some (r1, r2, r3)) :
    Calls Tryd.prog 30 #[.string a0, .string a1] w fun e w' => e = .returned (.tuple #[.string r1, .string r2, .bool r3]) ∧ Drawn0 w w' := by
  unfold strings_Cut.f at h
  split at h
  · have h := Option.some.inj h
    simp only [Prod.mk.injEq] at h
    obtain ⟨rfl, rfl, rfl⟩ := h
    obtain ⟨m, hm⟩ := hG.maxLen
    refine (Tryd.strings_Cut a0 a1 m w (by assumption) hm).mono ?_
    rintro e w' ⟨rfl, n, rfl⟩
    exact ⟨rfl, ⟨⟨n, rfl⟩⟩⟩
  · cases h

/-! ### stringslite_HasSuffix: function 56 -/
def stringslite_HasSuffix.f (a0 : ByteArray) (a1 : ByteArray) : Option (Bool) := if (a0.size : Int) ≥ (a1.size : Int) then (if 0 ≤ (wrap64 ((a0.size : Int) - (a1.size : Int))) then (if (wrap64 ((a0.size : Int) - (a1.size : Int))) ≤ (a0.size : Int) then (some ((a0.extract ((wrap64 ((a0.size : Int) - (a1.size : Int))) : Int).toNat a0.size).toList == a1.toList)) else (none)) else (none)) else (some false)
set_option maxHeartbeats 8000000 in
set_option maxRecDepth 100000 in
theorem stringslite_HasSuffix.calls (a0 : ByteArray) (a1 : ByteArray) (r : Bool) (w : World) (h : stringslite_HasSuffix.f a0 a1 = some r) :
    Calls Tryd.prog 56 #[.string a0, .string a1] w fun e w' => e = .returned (.bool r) ∧ Drawn0 w w' := by
  have H : (if (a0.size : Int) ≥ (a1.size : Int) then (if 0 ≤ (wrap64 ((a0.size : Int) - (a1.size : Int))) then (if (wrap64 ((a0.size : Int) - (a1.size : Int))) ≤ (a0.size : Int) then (some ((a0.extract ((wrap64 ((a0.size : Int) - (a1.size : Int))) : Int).toNat a0.size).toList == a1.toList)) else (none)) else (none)) else (some false)) = some r := h
  clear h
  by_cases c3 : (a0.size : Int) ≥ (a1.size : Int)
  · rw [if_pos c3] at H
    have c3b0 : decide ((a1.size : Int) ≤ (a0.size : Int)) = true := decide_eq_true c3
    have c3b1 : decide (a1.size ≤ a0.size) = true := decide_eq_true (Int.ofNat_le.mp c3)
    clear c3
    obtain ⟨ji4, hji4⟩ : ∃ j_ : Int, (wrap64 ((a0.size : Int) - (a1.size : Int))) = j_ := ⟨_, rfl⟩
    replace H : (if 0 ≤ (ji4) then (if (ji4) ≤ (a0.size : Int) then (some ((a0.extract ((ji4) : Int).toNat a0.size).toList == a1.toList)) else (none)) else (none)) = some r := by first | (rw [hji4] at H; exact H) | (simp only [hji4] at H ⊢; exact H)
    have hji4v : (IntKind.i64.wrap ((a0.size : Int) - (a1.size : Int))) = ji4 := by first | exact hji4 | (simp only [i64_w, i32_w]; exact hji4)
    have hji4w : (IntKind.i64.wrap ((a0.size : Int) - (a1.size : Int))) = ji4 := (i64_w _).trans hji4
    by_cases c5 : 0 ≤ (ji4)
    · rw [if_pos c5] at H
      have c5b0 := eq_true c5
      have c5b1 : decide (0 ≤ (ji4)) = true := decide_eq_true c5
      clear c5
      by_cases c6 : (ji4) ≤ (a0.size : Int)
      · rw [if_pos c6] at H
        have c6b0 := eq_true c6
        have c6b1 : decide ((ji4) ≤ (a0.size : Int)) = true := decide_eq_true c6
        clear c6
        obtain rfl := Option.some.inj H
        go_enter Tryd.func56, Tryd.ntmps56
        go_wp2
        go_ret
        exact ⟨by first | rfl | (simp; done) | (simp only [i64_w, i32_w]; done) | (simp only [← hji4] <;> (first | rfl | simp)) | (simp [*]; done), by repeat (first | exact Drawn0.refl _ | apply Drawn0.step)⟩
      · rw [if_neg c6] at H
        exact absurd H (by simp)
    · rw [if_neg c5] at H
      exact absurd H (by simp)
  · rw [if_neg c3] at H
    have c3b0 : decide ((a1.size : Int) ≤ (a0.size : Int)) = false := decide_eq_false c3
    have c3b1 : decide (a1.size ≤ a0.size) = false := decide_eq_false (fun h => c3 (Int.ofNat_le.mpr h))
    clear c3
    obtain rfl := Option.some.inj H
    go_enter Tryd.func56, Tryd.ntmps56
    go_wp2
    go_ret
    exact ⟨by first | rfl | (simp; done) | (simp [*]; done), by repeat (first | exact Drawn0.refl _ | apply Drawn0.step)⟩

/-! ### stringslite_TrimSuffix: function 50 -/
def stringslite_TrimSuffix.f (a0 : ByteArray) (a1 : ByteArray) : Option (ByteArray) := (stringslite_HasSuffix.f a0 a1).bind fun t113 => (if t113 = true then (if 0 ≤ (wrap64 ((a0.size : Int) - (a1.size : Int))) then (if (wrap64 ((a0.size : Int) - (a1.size : Int))) ≤ (a0.size : Int) then (some (a0.extract 0 ((wrap64 ((a0.size : Int) - (a1.size : Int))) : Int).toNat)) else (none)) else (none)) else (some a0))
set_option maxHeartbeats 8000000 in
set_option maxRecDepth 100000 in
theorem stringslite_TrimSuffix.calls (a0 : ByteArray) (a1 : ByteArray) (r : ByteArray) (w : World) (h : stringslite_TrimSuffix.f a0 a1 = some r) :
    Calls Tryd.prog 50 #[.string a0, .string a1] w fun e w' => e = .returned (.string r) ∧ Drawn0 w w' := by
  have H : ((stringslite_HasSuffix.f a0 a1).bind fun t113 => (if t113 = true then (if 0 ≤ (wrap64 ((a0.size : Int) - (a1.size : Int))) then (if (wrap64 ((a0.size : Int) - (a1.size : Int))) ≤ (a0.size : Int) then (some (a0.extract 0 ((wrap64 ((a0.size : Int) - (a1.size : Int))) : Int).toNat)) else (none)) else (none)) else (some a0))) = some r := h
  clear h
  replace H := Option.bind_eq_some_iff.mp H
  obtain ⟨t113, A30, H⟩ := H
  replace H : (if t113 = true then (if 0 ≤ (wrap64 ((a0.size : Int) - (a1.size : Int))) then (if (wrap64 ((a0.size : Int) - (a1.size : Int))) ≤ (a0.size : Int) then (some (a0.extract 0 ((wrap64 ((a0.size : Int) - (a1.size : Int))) : Int).toNat)) else (none)) else (none)) else (some a0)) = some r := H
  have A3 := Aside0.mk A30
  clear A30
  by_cases c4 : t113 = true
  · subst c4
    have H1 : (if 0 ≤ (wrap64 ((a0.size : Int) - (a1.size : Int))) then (if (wrap64 ((a0.size : Int) - (a1.size : Int))) ≤ (a0.size : Int) then (some (a0.extract 0 ((wrap64 ((a0.size : Int) - (a1.size : Int))) : Int).toNat)) else (none)) else (none)) = some r := by rw [if_pos rfl] at H; exact H
    clear H
    have H := H1
    clear H1
    obtain ⟨ji5, hji5⟩ : ∃ j_ : Int, (wrap64 ((a0.size : Int) - (a1.size : Int))) = j_ := ⟨_, rfl⟩
    replace H : (if 0 ≤ (ji5) then (if (ji5) ≤ (a0.size : Int) then (some (a0.extract 0 ((ji5) : Int).toNat)) else (none)) else (none)) = some r := by first | (rw [hji5] at H; exact H) | (simp only [hji5] at H ⊢; exact H)
    (try rw [hji5] at A3)
    have hji5v : (IntKind.i64.wrap ((a0.size : Int) - (a1.size : Int))) = ji5 := by first | exact hji5 | (simp only [i64_w, i32_w]; exact hji5)
    have hji5w : (IntKind.i64.wrap ((a0.size : Int) - (a1.size : Int))) = ji5 := (i64_w _).trans hji5
    by_cases c6 : 0 ≤ (ji5)
    · rw [if_pos c6] at H
      have c6b0 := eq_true c6
      have c6b1 : decide (0 ≤ (ji5)) = true := decide_eq_true c6
      clear c6
      by_cases c7 : (ji5) ≤ (a0.size : Int)
      · rw [if_pos c7] at H
        have c7b0 := eq_true c7
        have c7b1 : decide ((ji5) ≤ (a0.size : Int)) = true := decide_eq_true c7
        clear c7
        obtain rfl := Option.some.inj H
        go_enter Tryd.func50, Tryd.ntmps50
        go_wp2_with (first | ((with_reducible refine gate_callee (f := 56) rfl ?_); refine goesL_ (some 7) rfl rfl Tryd.func56 (by kernel_rfl) rfl #[.string a0, .string a1] rfl (by (try simp only [List.map_toArray, List.map_cons, List.map_nil]); first | done | rfl | (simp only [List.length_drop, List.length_take]; rfl)) ?_; (with_reducible refine (stringslite_HasSuffix.calls a0 a1 true _ A3.out).mono ?_); rintro e w' ⟨rfl, ⟨nd, rfl⟩⟩; refine ⟨_, rfl, ?_⟩))
        go_ret
        exact ⟨by first | rfl | (simp; done) | (simp only [i64_w, i32_w]; done) | (simp only [← hji5] <;> (first | rfl | simp)) | (simp [*]; done), by repeat (first | exact Drawn0.refl _ | apply Drawn0.step)⟩
      · rw [if_neg c7] at H
        exact absurd H (by simp)
    · rw [if_neg c6] at H
      exact absurd H (by simp)
  · replace c4 := Bool.eq_false_iff.mpr c4
    subst c4
    have H1 : (some a0) = some r := by rw [if_neg (show ¬ (false = true) by decide)] at H; exact H
    clear H
    have H := H1
    clear H1
    obtain rfl := Option.some.inj H
    go_enter Tryd.func50, Tryd.ntmps50
    go_wp2_with (first | ((with_reducible refine gate_callee (f := 56) rfl ?_); refine goesL_ (some 7) rfl rfl Tryd.func56 (by kernel_rfl) rfl #[.string a0, .string a1] rfl (by (try simp only [List.map_toArray, List.map_cons, List.map_nil]); first | done | rfl | (simp only [List.length_drop, List.length_take]; rfl)) ?_; (with_reducible refine (stringslite_HasSuffix.calls a0 a1 false _ A3.out).mono ?_); rintro e w' ⟨rfl, ⟨nd, rfl⟩⟩; refine ⟨_, rfl, ?_⟩))
    go_ret
    exact ⟨by first | rfl | (simp; done) | (simp [*]; done), by repeat (first | exact Drawn0.refl _ | apply Drawn0.step)⟩

/-! ### strings_TrimSuffix: function 31 -/
def strings_TrimSuffix.f (a0 : ByteArray) (a1 : ByteArray) : Option (ByteArray) := (stringslite_TrimSuffix.f a0 a1).bind fun t114 => (some t114)
set_option maxHeartbeats 8000000 in
set_option maxRecDepth 100000 in
theorem strings_TrimSuffix.calls (a0 : ByteArray) (a1 : ByteArray) (r : ByteArray) (w : World) (h : strings_TrimSuffix.f a0 a1 = some r) :
    Calls Tryd.prog 31 #[.string a0, .string a1] w fun e w' => e = .returned (.string r) ∧ Drawn0 w w' := by
  have H : ((stringslite_TrimSuffix.f a0 a1).bind fun t114 => (some t114)) = some r := h
  clear h
  replace H := Option.bind_eq_some_iff.mp H
  obtain ⟨t114, A30, H⟩ := H
  replace H : (some t114) = some r := H
  have A3 := Aside0.mk A30
  clear A30
  obtain rfl := Option.some.inj H
  go_enter Tryd.func31, Tryd.ntmps31
  go_wp2_with (first | ((with_reducible refine gate_callee (f := 50) rfl ?_); refine goesL_ (some 7) rfl rfl Tryd.func50 (by kernel_rfl) rfl #[.string a0, .string a1] rfl (by (try simp only [List.map_toArray, List.map_cons, List.map_nil]); first | done | rfl | (simp only [List.length_drop, List.length_take]; rfl)) ?_; (with_reducible refine (stringslite_TrimSuffix.calls a0 a1 t114 _ A3.out).mono ?_); rintro e w' ⟨rfl, ⟨nd, rfl⟩⟩; refine ⟨_, rfl, ?_⟩))
  go_ret
  exact ⟨by first | rfl | (simp; done) | (simp [*]; done), by repeat (first | exact Drawn0.refl _ | apply Drawn0.step)⟩

end Go.Proofs.YtcfdnicnjhilkaaDoor.J
