/- The feed's next byte, and what it speaks of. -/
import Derived.Test.YtccaodehgaaheaaDoorFd1
namespace Go.Proofs.YtccaodehgaaheaaDoor.R
open Go.RowKit Go.Proofs.YtccaodehgaaheaaDoorW.PrintWords Go.Proofs.YtccaodehgaaheaaDoorW.PrintLast Go.Proofs.YtccaodehgaaheaaDoorW.PrintMore
set_option linter.unusedVariables false
set_option linter.unusedSimpArgs false
set_option maxHeartbeats 4000000 in
set_option maxRecDepth 100000 in
theorem feed_next (g : Nat) (A0 : Option Addr) (c0 : Nat) (v2 : Value) (l : List Int) (a many : Int) (w : World) (hg : w.heap[g]? = some (.cells #[.slice A0 l.length c0, .int .i64 a, v2, .int .i64 many] 62 (0, 0))) (hl : Kd.F (Kd.int .u8) w (fun k => k ≠ g) A0 l.length l) (hf : Fed l a) :
    Calls Tryd.prog 29 #[.pointer (some ⟨g, 0, none⟩)] w fun e w' => e = .returned (.int .i64 (nx l a).1) ∧ w'.heap[g]? = some (.cells #[.slice A0 l.length c0, .int .i64 (nx l a).2, v2, .int .i64 many] 62 (0, 0)) ∧ Kb g w w' := by
  have hm := Kd.C_max (Kd.F_now hl)
  have hc0 : w.cell? ⟨g, 0, none⟩ = some (.slice A0 l.length c0) := (blk_cell hg 0).trans rfl
  have hc1 : w.cell? ⟨g, 1, none⟩ = some (.int .i64 a) := (blk_cell hg 1).trans rfl
  have hfz1 := blk_frozen hg 1
  have HG := Aside0.mk hg
  have hb := hf.byte
  have hlo := hf.lo
  have hhi := hf.hi
  unfold nx at hb ⊢
  by_cases hle : (l.length : Int) ≤ a
  · rw [if_pos hle]
    have hd : decide ((l.length : Int) ≤ a) = true := decide_eq_true hle
    clear hg hl hf hb hle hlo hhi
    go_enter Tryd.func29, Tryd.ntmps29
    go_wp2
    repeat (go_quiet (fail); try go_wp2)
    go_ret
    exact ⟨rfl, HG.out, Kb.drewN (Kb.refl _ _) _⟩
  · rw [if_neg hle] at hb
    rw [if_neg hle]
    have hd : decide ((l.length : Int) ≤ a) = false := decide_eq_false hle
    have hw0 : IntKind.i64.wrap a = a := by rw [i64_w]; unfold wrap64; omega
    have hw1 : IntKind.i64.wrap (a + 1) = a + 1 := by rw [i64_w]; unfold wrap64; omega
    have hw2 : IntKind.i64.wrap (a + 1 - 1) = a := by rw [i64_w]; unfold wrap64; omega
    have hw3 : IntKind.i64.wrap (rd l a) = rd l a := by rw [i64_w]; unfold wrap64; simp only at hb; omega
    obtain ⟨ad, e, hx⟩ := Kd.at_int (Kd.F_now hl) a hlo (by omega)
    have hy : ∀ n : Nat, ((w.drewN n).setCell ⟨g, 1, none⟩ (.int .i64 (a + 1))).cell? (ad.add a.toNat) = some (.int .u8 (rd l a)) := fun n => by
      obtain ⟨ad', e', h'⟩ := Kd.at_int (hl ((w.drewN n).setCell ⟨g, 1, none⟩ (.int .i64 (a + 1))) (fun k hk _ => Below.heap_setCell (w.drewN n) _ _ k hk)) a hlo (by omega)
      rw [e] at e'
      injection e' with e'
      rw [e']
      exact h'
    have p1 : (0 ≤ a) = True := eq_true hlo
    have p2 : (a < (l.length : Int)) = True := eq_true (by omega)
    clear hx hb hf hl hg hhi hlo hle
    subst e
    go_enter Tryd.func29, Tryd.ntmps29
    go_wp2
    repeat (go_quiet (fail); try go_wp2)
    go_ret
    exact ⟨rfl, blk_put (HG.out) 1 _ rfl, Kb.drewN ((Kb.drewN (Kb.refl _ _) _).trans (Kb.set _ _ _ _)) _⟩
abbrev EV (x : S26) (v : Value) : Value := .agg #[.int .i64 x.f0, .string x.f1, .int .i64 x.f2.f0, .int .i64 x.f2.f1, .string x.f2.f2, .string x.f3, .string x.f4, v]
theorem one8 (n0 n1 n2 : Int) (b1 b2 b3 b4 : ByteArray) (A : Option Addr) (n c : Nat) : (#[.int .i64 n0, .string b1, .int .i64 n1, .int .i64 n2, .string b2, .string b3, .string b4, .slice A n c] : Array Value).all (·.oneCell') = true := by simp [Value.oneCell']
theorem one2 (b : ByteArray) (A : Option Addr) (n c : Nat) : (#[.string b, .slice A n c] : Array Value).all (·.oneCell') = true := by simp [Value.oneCell']
theorem keepS {w1 w' : World} {a b c : Addr} {x y z : Value} (hx : w1.cell? a = some x) (hy : w1.cell? b = some y) (hz : w1.cell? c = some z) (h : Below w1.heap.size w1 w') : w'.cell? a = some x ∧ w'.cell? b = some y ∧ w'.cell? c = some z ∧ Below w1.heap.size w1 w' := ⟨pw_cell_below h hx, pw_cell_below h hy, pw_cell_below h hz, h⟩
theorem apartA {w1 wn : World} {v1 : Value} {xs : List Slot} (h : Kd.N kSlot 59 wn w1.heap.size (fun _ => True) v1 xs) : ∀ k, (k < w1.heap.size ∨ k = wn.heap.size) → True ∧ some k ≠ v1.ownBlock := fun k hk => ⟨trivial, fun e => by
  rcases hk with hk | hk
  · have := Kd.N_base h k e.symm; omega
  · have := Kd.N_lt h k e.symm; omega⟩
theorem apartB {w1 wn : World} {v1 : Value} {o : Obj} {xs : List Slot} (h : Kd.N kSlot 59 wn w1.heap.size (fun _ => True) v1 xs) (hat : v1.ownBlock = (Value.slice none 0 0).ownBlock ∨ ∃ b, v1.ownBlock = some b ∧ (w1.drew.alloc o).heap.size ≤ b) : ∀ k, (k < w1.heap.size ∨ k = w1.heap.size) → True ∧ some k ≠ v1.ownBlock := fun k hk => ⟨trivial, fun e => by
  rcases hk with hk | hk
  · have := Kd.N_base h k e.symm; omega
  · rcases hat with hat | ⟨b, hb, hle⟩
    · rw [hat] at e; simp [Value.ownBlock] at e
    · rw [hb] at e
      injection e with e
      have : (w1.drew.alloc o).heap.size = w1.heap.size + 1 := by simp
      omega⟩
set_option maxHeartbeats 8000000 in
set_option maxRecDepth 100000 in
theorem feed_of (g : Nat) (A0 : Option Addr) (c0 : Nat) (A2 : Option Addr) (c2 : Nat) (A1 : Option Addr) (c1 : Nat) (l : List Int) (vars : List Slot) (own : Slot) (a many : Int) (fields : ByteArray) (other : S23) (w : World)
    (hg : w.heap[g]? = some (.cells #[.slice A0 l.length c0, .int .i64 a, .slice A2 vars.length c2, .int .i64 many] 62 (0, 0))) (hl : Kd.F (Kd.int .u8) w (fun k => k ≠ g) A0 l.length l) (hv : Kd.F kSlot w (fun k => k ≠ g) A2 vars.length vars) (ho : Kd.F Kd.string w (fun k => k ≠ g) A1 own.f1.length own.f1) (hc1 : own.f1.length ≤ c1) (hf : Fed l a) (hlim : vars.length < 3518437208882) (hfs : fields.size ≤ 100) (hfl : ∀ s ∈ vars ++ [own], s.f1.length ≤ 100) :
    Calls Tryd.prog 47 #[.pointer (some ⟨g, 0, none⟩), .agg #[.string own.f0, .slice A1 own.f1.length c1], .string fields, .agg #[.int .i64 other.f0, .int .i64 other.f1, .string other.f2]] w fun e w' => e = .returned (EV (ofF l a vars own fields other).1 (.slice none 0 0)) ∧ w'.heap[g]? = some (.cells #[.slice A0 l.length c0, .int .i64 (ofF l a vars own fields other).2, .slice A2 vars.length c2, .int .i64 many] 62 (0, 0)) ∧ Kb g w w' := by
  have hu26 := Tryd.underlying26
  have hu59 := Tryd.underlying59
  have HG := Aside0.mk hg
  have HL := Aside0.mk hl
  have HV := Aside0.mk hv
  have HO := Aside0.mk ho
  have hb := hf.byte
  have HLT := Aside0.mk (blk_lt hg)
  obtain ⟨R, HR⟩ : ∃ R, ofF l a vars own fields other = R := ⟨_, rfl⟩
  rw [HR]
  unfold ofF at HR
  have HN := Lib.hid (fun wc hs hfl => feed_next g A0 c0 (.slice A2 vars.length c2) l a many wc hs hfl hf)
  generalize (nx l a).1 = b at HR HN hb
  generalize (nx l a).2 = a2 at HR HN
  obtain ⟨L, HLL⟩ : ∃ L, vars ++ [own] = L := ⟨_, rfl⟩
  rw [HLL] at HR hfl
  have hLp : 0 < L.length := by rw [← HLL]; simp
  have hLb : L.length ≤ 3518437208882 := by rw [← HLL]; simp; omega
  replace HR := Aside0.mk HR
  replace HLL := Aside0.mk HLL
  have HFL := Aside0.mk hfl
  clear hfl
  obtain ⟨hb0, hb1⟩ := hb
  clear hg hl hv ho hf
  go_enter Tryd.func47, Tryd.ntmps47
  go_upto_region 2 with (first
    | ((with_reducible refine gate_dst (N := 5) rfl ?_); refine box_event ?hg (N := 5) ?hd (cs := #[.string own.f0, .slice A1 own.f1.length c1]) (t := 59) ?hr ?_; (case hd => rfl); (case hg => rfl); (case hr => first | (go_simp; done) | (go_simp; rfl)); intro g5 e5 wa hbox hb5; have BK5 := Aside0.mk hbox; have E5 := Aside0.mk e5; have HWA := Aside0.mk hb5; clear hbox e5 hb5)
    | ((with_reducible refine gate_dst (N := 7) rfl ?_); refine box_event ?hg (N := 7) ?hd (cs := #[.int .i64 other.f0, .int .i64 other.f1, .string other.f2]) (t := 23) ?hr ?_; (case hd => rfl); (case hg => rfl); (case hr => first | (go_simp; done) | (go_simp; rfl)); intro g7 e7 wb hbox hb7; have BK7 := Aside0.mk hbox; have E7 := Aside0.mk e7; have HWB := Aside0.mk hb7; clear hbox e7 hb7)
    | ((with_reducible refine gate_dst (N := 8) rfl ?_); refine box_event ?hg (N := 8) ?hd (cs := #[.int .i64 0, .string ⟨#[]⟩, .int .i64 0, .int .i64 0, .string ⟨#[]⟩, .string ⟨#[]⟩, .string ⟨#[]⟩, .slice none 0 0]) (t := 26) ?hr ?_; (case hd => rfl); (case hg => rfl); (case hr => first | (go_simp; done) | (go_simp; rfl)); intro g8 e8 wc hbox hb8; have FR := Aside0.mk (Frame.start HG.out HL.out HV.out HO.out E5.out BK5.out HWA.out (by rw [e8]; exact HWB.out.size) hbox (below_then HWB.out HWB.out.size hb8)); have NE78 := Aside0.mk (show g7 ≠ g8 from Nat.ne_of_lt (e8 ▸ blk_lt BK7.out)); replace BK7 := Aside0.mk (blk_below BK7.out hb8); have GE7 := Aside0.mk (show w.heap.size ≤ g7 from E7.out ▸ HWA.out.size); clear hbox e8 hb8 BK5 E5 E7 HWA HWB)
    | (go_at_call 29; refine (HN.out wc FR.out.st FR.out.fl').mono ?_; rintro e w1 ⟨rfl, hst, hk⟩; replace FR := Aside0.mk (FR.out.turn hst hk); replace BK7 := Aside0.mk (hk.blk BK7.out (by have := HLT.out; have := GE7.out; omega)); clear hst hk HN))
  have hcg2 : w1.cell? ⟨g, 2, none⟩ = some (.slice A2 vars.length c2) := (blk_cell FR.out.st 2).trans rfl
  have hc50 : w1.cell? ⟨g5, 0, none⟩ = some (.string own.f0) := (blk_cell FR.out.b4 0).trans rfl
  have hc51 : w1.cell? ⟨g5, 1, none⟩ = some (.slice A1 own.f1.length c1) := (blk_cell FR.out.b4 1).trans rfl
  have HFo := Lib.hid (Kd.C_F Kd.heap_string (Kd.F_now FR.out.fo))
  go_region_held3 (fun w' => w'.cell? ⟨g, 2, none⟩ = some (.slice A2 vars.length c2) ∧ w'.cell? ⟨g5, 0, none⟩ = some (.string own.f0) ∧ w'.cell? ⟨g5, 1, none⟩ = some (.slice A1 own.f1.length c1) ∧ Below w1.heap.size w1 w') (exact keepS hcg2 hc50 hc51 (by first | assumption | exact below_drew (Below.refl _ _) | exact below_alloc (below_drew (Below.refl _ _)) _ | (refine below_alloc ?_ _; assumption))) (first
    | ((refine Kd.N_append_rows_step kSlot (w0 := w1) w1.heap.size (by simp [Region.wanted]) (.const (.slice none 0 0)) (.tmp 21) 60 59 (.agg #[.string ⟨#[]⟩, .slice none 0 0]) 40 (by rfl) Tryd.underlying60 infoSlot rfl (by decide) (by omega) (.slice none 0 0) [] vars A2 vars.length c2 (fun _ => True) (fun k => k ≠ g) (by rfl) (by rfl) (Kd.N_nil _ _ _ _ _) (Kd.F_below FR.out.fv' (by first | exact below_drew (Below.refl _ _) | exact below_alloc (below_drew (Below.refl _ _)) _)) (fun k hk => ⟨trivial, by simp [Value.ownBlock]⟩) (fun _ _ => trivial) (by first | exact below_drew (Below.refl _ _) | exact below_alloc (below_drew (Below.refl _ _)) _) (Below.size (by first | exact below_drew (Below.refl _ _) | exact below_alloc (below_drew (Below.refl _ _)) _ : Below w1.heap.size w1 _)) (by simp; omega) ?_; intro v1 wn ho1 hn1 hg1 hat1))
    | ((refine Kd.N_append_rows_step kSlot (w0 := w1) w1.heap.size (by simp [Region.wanted]) (.tmp 22) (.tmp 24) 60 59 (.agg #[.string ⟨#[]⟩, .slice none 0 0]) 40 (by rfl) Tryd.underlying60 infoSlot rfl (by decide) (by omega) v1 ([] ++ vars) [own] (some ⟨wn.heap.size, 0, none⟩) 1 1 (fun _ => True) (fun k => k < w1.heap.size ∨ k = wn.heap.size) (by rfl) (by rfl) (Kd.N_alloc ho1 _) (own_FSlot (heap_alloc_new wn _) hc1 (Kd.F_below HFo.out (below_alloc hn1 _))) (apartA ho1) (fun _ _ => trivial) (by first | assumption | (refine below_alloc ?_ _; assumption)) (Below.size (by first | assumption | (refine below_alloc ?_ _; assumption) : Below w1.heap.size w1 _)) (by simp; omega) ?_; intro v2 wm ho2 hn2 hg2 hat2))
    | ((refine Kd.N_append_rows_step kSlot (w0 := w1) w1.heap.size (by simp [Region.wanted]) (.tmp 22) (.tmp 24) 60 59 (.agg #[.string ⟨#[]⟩, .slice none 0 0]) 40 (by rfl) Tryd.underlying60 infoSlot rfl (by decide) (by omega) v1 ([] ++ vars) [own] (some ⟨w1.heap.size, 0, none⟩) 1 1 (fun _ => True) (fun k => k < w1.heap.size ∨ k = w1.heap.size) (by rfl) (by rfl) ho1 (own_FSlot (blk_grown (heap_alloc_new w1.drew _) hg1 (by simp [Value.ownBlock])) hc1 (Kd.F_below HFo.out hn1)) (apartB ho1 hat1) (fun _ _ => trivial) (by first | assumption | (refine below_alloc ?_ _; assumption)) (Below.size (by first | assumption | (refine below_alloc ?_ _; assumption) : Below w1.heap.size w1 _)) (by simp; omega) ?_; intro v2 wm ho2 hn2 hg2 hat2)))
  all_goals
    rw [List.nil_append, HLL.out] at ho2
    obtain ⟨AL, cL, rfl⟩ := Kd.N_slice ho2
    have HC := Aside0.mk (Kd.N_reads' ho2).2.2
    replace FR := Aside0.mk (FR.out.grow hn2)
    replace BK7 := Aside0.mk (blk_below BK7.out hn2)
    clear ho2 ho1 hg2 hat2 hg1 hat1 hn1 hn2 hcg2 hc50 hc51 HFo
    have hm := Kd.C_max HC.out
    have hz : ((L.length : Int) == 0) = false := beq_eq_false_iff_ne.2 (by omega)
    have hz2 : ¬ ((L.length : Int) = 0) := by omega
    go_wp2
    go_loopg [11, 12, 13, 14, 15] L.length (fun gg s11 _ _ _ _ wr => ∃ kk : Nat, kk ≤ L.length ∧ L.length - kk ≤ gg ∧ s11 = .int .i64 kk ∧ Aside0 (Below wm.heap.size wm wr) ∧ Aside0 (∀ j, j < kk → pickI b fields L j = none))
    case atStart => exact ⟨0, Nat.zero_le _, by omega, rfl, ⟨Below.refl _ _⟩, ⟨fun j hj => absurd hj (Nat.not_lt_zero _)⟩⟩
    case round =>
      obtain ⟨kk, hkk, hgk, rfl, HBR, HP⟩ := hrel
      by_cases hlt : kk < L.length
      · have hlt' : (kk : Int) < (L.length : Int) := by omega
        have hw : IntKind.i64.wrap (b + (kk : Int)) = b + kk := by rw [i64_w]; unfold wrap64; omega
        obtain ⟨ji, hji⟩ : ∃ ji, Int.tmod (b + (kk : Int)) (L.length : Int) = ji := ⟨_, rfl⟩
        have h0 : 0 ≤ ji := by rw [← hji]; exact Int.tmod_nonneg _ (by omega)
        have h1 : ji < (L.length : Int) := by rw [← hji]; exact Int.tmod_lt_of_pos _ (by omega)
        have hjie : (b + (kk : Int)) % (L.length : Int) = ji := by rw [← Int.tmod_eq_emod_of_nonneg (by omega)]; exact hji
        have HJI := Aside0.mk hji
        obtain ⟨ad, A', c', eAL, hx0, hx1, hle', hcc⟩ := at_Slot (Kd.C_below HC.out HBR.out) ji h0 h1
        subst eAL
        have hsl : (rdSlot L ji).f1.length ≤ 100 := HFL.out _ (by unfold rdSlot; rw [List.getD_eq_getElem?_getD, List.getElem?_eq_getElem (by omega : ji.toNat < L.length)]; exact List.getElem_mem _)
        generalize hs : rdSlot L ji = s at hx0 hx1 hle' hcc hsl
        replace hs := Aside0.mk hs
        have p0 : (0 ≤ ji) = True := eq_true h0
        have p1 : (ji < (L.length : Int)) = True := eq_true h1
        have HFs := Lib.hid (Kd.C_F Kd.heap_string hcc)
        have hmS := Kd.C_max hcc
        clear hcc h0 h1
        go_wp2_with (first
          | ((with_reducible refine gate_dst (N := 12) rfl ?_); refine box_event ?hg (N := 12) ?hd (cs := #[.string ⟨#[]⟩, .slice none 0 0]) (t := 59) ?hr ?_; (case hd => rfl); (case hg => rfl); (case hr => first | (go_simp; done) | (go_simp; rfl)); intro g12 e12 wq hbox hq; have BK12 := Aside0.mk hbox; have E12 := Aside0.mk e12; have HQ := Aside0.mk hq; clear hbox e12 hq)
          | ((with_reducible refine gate_store (t := 59) (p := 12) rfl ?_); refine ev_store rfl rfl 59 12 (.tmp 40) rfl g12 #[.string s.f0, .slice A' s.f1.length c'] (by rfl) (by rfl) 59 _ BK12.out (by kernel_rfl) rfl (one2 _ _ _ _) ?_; intro wv hbv hkv; replace BK12 := Aside0.mk hbv; have HBV := Aside0.mk (show Below wr.heap.size wr wv from ⟨hkv.os.trans HQ.out.os, hkv.tape.trans HQ.out.tape, hkv.output.trans HQ.out.output, Nat.le_trans HQ.out.size hkv.size, fun k hk => (hkv.block k (Nat.lt_of_lt_of_le hk HQ.out.size) (by have := E12.out; omega)).trans (HQ.out.block k hk)⟩); clear hbv hkv HQ))
        have HFs2 := Lib.hid (Kd.F_below HFs.out HBV.out)
        clear HFs
        have HBM := Aside0.mk (below_then HBR.out HBR.out.size HBV.out)
        go_loopg [13, 14, 15] s.f1.length (fun gg s13 _ _ w2 => ∃ k2 : Nat, k2 ≤ s.f1.length ∧ s.f1.length - k2 ≤ gg ∧ s13 = .int .i64 k2 ∧ Aside0 (Below wv.heap.size wv w2) ∧ Aside0 (∀ j, j < k2 → pickF b fields s j = none))
        case atStart => exact ⟨0, Nat.zero_le _, by omega, rfl, ⟨Below.refl _ _⟩, ⟨fun j hj => absurd hj (Nat.not_lt_zero _)⟩⟩
        case round =>
          obtain ⟨k2, hk2, hg2, rfl, HB2, HP2⟩ := hrel
          obtain ⟨wy, hwy⟩ : ∃ x, x = wr := ⟨_, rfl⟩
          subst hwy
          have B12 := Aside0.mk (blk_below BK12.out HB2.out)
          have hcc0 : wy.cell? ⟨g12, 0, none⟩ = some (.string s.f0) := (blk_cell B12.out 0).trans rfl
          have hcc1 : wy.cell? ⟨g12, 1, none⟩ = some (.slice A' s.f1.length c') := (blk_cell B12.out 1).trans rfl
          by_cases hlt2 : k2 < s.f1.length
          · have hlt2' : (k2 : Int) < (s.f1.length : Int) := by omega
            obtain ⟨d8, hd8⟩ : ∃ d8, Int.tdiv b 8 = d8 := ⟨_, rfl⟩
            have hd8e : b / 8 = d8 := by rw [← Int.tdiv_eq_ediv_of_nonneg hb0]; exact hd8
            have hd0 : 0 ≤ d8 := by omega
            have hd1 : d8 ≤ 31 := by omega
            have hw8 : IntKind.i64.wrap d8 = d8 := by rw [i64_w]; unfold wrap64; omega
            have hw9 : IntKind.i64.wrap (d8 + (k2 : Int)) = d8 + k2 := by rw [i64_w]; unfold wrap64; omega
            obtain ⟨jf, hjf⟩ : ∃ jf, Int.tmod (d8 + (k2 : Int)) (s.f1.length : Int) = jf := ⟨_, rfl⟩
            have hjfe : (d8 + (k2 : Int)) % (s.f1.length : Int) = jf := by rw [← Int.tmod_eq_emod_of_nonneg (by omega)]; exact hjf
            have h0 : 0 ≤ jf := by rw [← hjf]; exact Int.tmod_nonneg _ (by omega)
            have h1 : jf < (s.f1.length : Int) := by rw [← hjf]; exact Int.tmod_lt_of_pos _ (by omega)
            have hz3 : ((s.f1.length : Int) == 0) = false := beq_eq_false_iff_ne.2 (by omega)
            have hz4 : ¬ ((s.f1.length : Int) = 0) := by omega
            obtain ⟨ad2, eA', hx2⟩ := Kd.at_string (Kd.F_now (Kd.F_below HFs2.out HB2.out)) jf h0 h1
            generalize hnm : rdOf ByteArray.empty s.f1 jf = nm at hx2
            have HNM := Aside0.mk hnm
            have HJF := Aside0.mk hjf
            have HD8 := Aside0.mk hd8
            have q0 : (0 ≤ jf) = True := eq_true h0
            have q1 : (jf < (s.f1.length : Int)) = True := eq_true h1
            clear hnm h0 h1
            subst eA'
            go_wp2
            repeat (go_quiet (fail); try go_wp2)
            go_loopg [15] fields.size (fun gg s15 w3 => ∃ n : Nat, n ≤ fields.size ∧ fields.size - n ≤ gg ∧ s15 = .int .i64 n ∧ Aside0 (Below wy.heap.size wy w3) ∧ Aside0 (∀ j, j < n → pickC fields nm j = none))
            case atStart => exact ⟨0, Nat.zero_le _, by omega, rfl, ⟨pw_below_drewN (Below.refl _ _) _⟩, ⟨fun j hj => absurd hj (Nat.not_lt_zero _)⟩⟩
            case round =>
              obtain ⟨n, hn, hg3, rfl, HB3, HP3⟩ := hrel
              by_cases hlt3 : n < fields.size
              · have hlt3' : (n : Int) < (fields.size : Int) := by omega
                have hw10 : IntKind.i64.wrap ((n : Int) + 1) = n + 1 := by rw [i64_w]; unfold wrap64; omega
                have hs0 : (0 : Int) ≤ (n : Int) := by omega
                have hs1 : (n : Int) ≤ (n : Int) + 1 := by omega
                have hs2 : (n : Int) + 1 ≤ (fields.size : Int) := by omega
                by_cases hc : (nm.toList == (fields.extract n (n + 1)).toList) = true
                · have e3 : seekN (pickC fields nm) fields.size = some () := seekN_hit (kk := n) (by unfold pickC; rw [if_pos hc]) HP3.out hlt3
                  have e2 : pickF b fields s k2 = some nm := by unfold pickF; rw [HD8.out, HJF.out, HNM.out, e3]; rfl
                  have e1 : pickI b fields L kk = some (s.f0, nm) := by unfold pickI; rw [HJI.out, hs.out, seekN_hit e2 HP2.out hlt2]; rfl
                  have e0 : pick b fields L = some (s.f0, nm) := seekN_hit e1 HP.out hlt
                  have hR := HR.out
                  rw [e0] at hR
                  subst hR
                  clear e0 e1 e2 e3
                  have HBE := Aside0.mk (below_then (below_then HBM.out HBM.out.size HB2.out) (below_then HBM.out HBM.out.size HB2.out).size HB3.out)
                  have B12e := Aside0.mk (blk_below B12.out HB3.out)
                  have hce0 : wr.cell? ⟨g12, 0, none⟩ = some (.string s.f0) := (blk_cell B12e.out 0).trans rfl
                  replace FR := Aside0.mk (FR.out.grow HBE.out)
                  go_wp2_with (first
                    | ((with_reducible refine gate_store (t := 26) (p := 8) rfl ?_); refine ev_store rfl rfl 26 8 (.tmp 76) rfl g8 #[.int .i64 1, .string ⟨#[]⟩, .int .i64 0, .int .i64 0, .string ⟨#[]⟩, .string s.f0, .string nm, .slice none 0 0] (by rfl) (by rfl) 26 _ FR.out.b6 (by kernel_rfl) rfl (one8 _ _ _ _ _ _ _ _ _ _) ?_; intro wz hbz hkz; replace FR := Aside0.mk (FR.out.result hbz hkz); clear hbz hkz))
                  refine bodyPost_ret (results_cell_row rfl _ _ g8 26 _ (0, 0) _ rfl FR.out.b6 Tryd.underlying26 rfl (by kernel_rfl)) rfl ?_
                  exact ⟨rfl, FR.out.st, FR.out.kb⟩
                · have hcf : (nm.toList == (fields.extract n (n + 1)).toList) = false := by simpa using hc
                  have E3 := Aside0.mk (show pickC fields nm n = none by unfold pickC; rw [if_neg hc])
                  clear hc
                  go_wp2
                  go_roundg (fields.size - (n + 1))
                  case measure => omega
                  case rel =>
                    refine ⟨n + 1, by omega, by omega, by go_num, HB3, ⟨fun j hj => ?_⟩⟩
                    by_cases e : j = n
                    · subst e; exact E3.out
                    · exact HP3.out j (by omega)
              · have hlt3' : decide ((n : Int) < (fields.size : Int)) = false := by simpa using hlt3
                obtain rfl : n = fields.size := by omega
                have e2 : pickF b fields s k2 = none := by unfold pickF; rw [HD8.out, HJF.out, HNM.out, seekN_none HP3.out]; rfl
                have E2 := Aside0.mk e2
                clear e2 HP3
                go_wp2
                go_roundg (s.f1.length - (k2 + 1))
                case measure => omega
                case rel =>
                  refine ⟨k2 + 1, by omega, by omega, by go_num, ⟨below_then HB2.out HB2.out.size HB3.out⟩, ⟨fun j hj => ?_⟩⟩
                  by_cases e : j = k2
                  · subst e; exact E2.out
                  · exact HP2.out j (by omega)
          · have hlt2' : decide ((k2 : Int) < (s.f1.length : Int)) = false := by simpa using hlt2
            obtain rfl : k2 = s.f1.length := by omega
            have e1 : pickI b fields L kk = none := by unfold pickI; rw [HJI.out, hs.out, seekN_none HP2.out]; rfl
            have E1 := Aside0.mk e1
            clear e1 HP2
            go_wp2
            go_roundg (L.length - (kk + 1))
            case measure => omega
            case rel =>
              refine ⟨kk + 1, by omega, by omega, by go_num, ⟨below_then HBM.out HBM.out.size HB2.out⟩, ⟨fun j hj => ?_⟩⟩
              by_cases e : j = kk
              · subst e; exact E1.out
              · exact HP.out j (by omega)
      · have hlt' : decide ((kk : Int) < (L.length : Int)) = false := by simpa using hlt
        obtain rfl : kk = L.length := by omega
        have hR := HR.out
        rw [show pick b fields L = none from seekN_none HP.out] at hR
        subst hR
        have BK7w := Aside0.mk (blk_below BK7.out HBR.out)
        have hc70 : wr.cell? ⟨g7, 0, none⟩ = some (.int .i64 other.f0) := (blk_cell BK7w.out 0).trans rfl
        have hc71 : wr.cell? ⟨g7, 1, none⟩ = some (.int .i64 other.f1) := (blk_cell BK7w.out 1).trans rfl
        have hc72 : wr.cell? ⟨g7, 2, none⟩ = some (.string other.f2) := (blk_cell BK7w.out 2).trans rfl
        replace FR := Aside0.mk (FR.out.grow HBR.out)
        go_wp2_with (first
          | ((with_reducible refine gate_store (t := 26) (p := 8) rfl ?_); refine ev_store rfl rfl 26 8 (.tmp 78) rfl g8 #[.int .i64 0, .string ⟨#[]⟩, .int .i64 other.f0, .int .i64 other.f1, .string other.f2, .string ⟨#[]⟩, .string ⟨#[]⟩, .slice none 0 0] (by rfl) (by rfl) 26 _ FR.out.b6 (by kernel_rfl) rfl (one8 _ _ _ _ _ _ _ _ _ _) ?_; intro wz hbz hkz; replace FR := Aside0.mk (FR.out.result hbz hkz); clear hbz hkz))
        refine bodyPost_ret (results_cell_row rfl _ _ g8 26 _ (0, 0) _ rfl FR.out.b6 Tryd.underlying26 rfl (by kernel_rfl)) rfl ?_
        exact ⟨rfl, FR.out.st, FR.out.kb⟩
end Go.Proofs.YtccaodehgaaheaaDoor.R
