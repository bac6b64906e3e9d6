-- Printed by wip/pp.py of this claim's session (the kit's print over functions that are given by hand). Not trusted: Lean checks it.
import Derived.Test.YtcnancjkajbldaaPx0
import Derived.Test.YtcnancjkajbldaaPx5
import Derived.Test.YtcnancjkajbldaaPx7
import Derived.Test.YtcnancjkajbldaaPx17
namespace Go.Proofs.Ytcnancjkajbldaa.P
open Go.RowKit Go.Proofs.YtcnancjkajbldaaW.PrintWords Go.Proofs.YtcnancjkajbldaaW.PrintLast Go.Proofs.YtcnancjkajbldaaW.PrintMore
attribute [local go_sem] max2_int min2_int max_two min_two max_three min_three max_four min_four   -- for this text's walks alone
set_option linter.unusedVariables false
set_option linter.unusedSimpArgs false

/-! ### slices_Index_int_int: function 78 -/
def slices_Index_int_int.l0 : Nat → List Int → Int → Int → Int → Option (Int)
  | 0, _, _, _, _ => none
  | k + 1, x0, x1, x7, x8 => if x8 < x7 then (if 0 ≤ x8 then (if x8 < (x0.length : Int) then (if x1 = (rd x0 x8) then (some x8) else (slices_Index_int_int.l0 k x0 x1 x7 (wrap64 (x8 + 1)))) else (none)) else (none)) else (some (-1))
def slices_Index_int_int.f (k : Nat) (l0 : List Int) (a1 : Int) : Option (Int) := slices_Index_int_int.l0 k l0 a1 (l0.length : Int) 0
theorem slices_Index_int_int.mono_l : ∀ k, (∀ y0 y1 y2 y3, LeO (slices_Index_int_int.l0 k y0 y1 y2 y3) (slices_Index_int_int.l0 (k + 1) y0 y1 y2 y3))
  | 0 => fun _ _ _ _ r h => by simp [slices_Index_int_int.l0] at h
  | k + 1 => by
    have ih0 := slices_Index_int_int.mono_l k
    · intro y0 y1 y2 y3
      unfold slices_Index_int_int.l0
      repeat' first
      | (with_reducible exact ih0 _ _ _ _)
      | (with_reducible exact LeO.refl _)
      | (with_reducible exact LeO.none _)
      | (with_reducible refine LeO.ite ?_ ?_)
      | (with_reducible refine LeO.bind ?_ (fun _ => ?_))
      | exact ih0 _ _ _ _
      | exact LeO.none _
      | refine LeO.ite ?_ ?_
      | refine LeO.bind ?_ (fun _ => ?_)
theorem slices_Index_int_int.mono : ∀ a0 a1 k, LeO (slices_Index_int_int.f k a0 a1) (slices_Index_int_int.f (k + 1) a0 a1) := by
  intro a0 a1 k
  have ih0 := slices_Index_int_int.mono_l k
  unfold slices_Index_int_int.f
  repeat' first
      | (with_reducible exact ih0 _ _ _ _)
      | (with_reducible exact LeO.refl _)
      | (with_reducible exact LeO.none _)
      | (with_reducible refine LeO.ite ?_ ?_)
      | (with_reducible refine LeO.bind ?_ (fun _ => ?_))
      | exact ih0 _ _ _ _
      | exact LeO.none _
      | refine LeO.ite ?_ ?_
      | refine LeO.bind ?_ (fun _ => ?_)
set_option maxHeartbeats 8000000 in
set_option maxRecDepth 100000 in
theorem slices_Index_int_int.calls (k : Nat) (A0 : Option Addr) (c0 : Nat) (l0 : List Int) (a1 : Int) (r : Int) (w : World) (hr0 : Kd.C (Kd.int .i64) w A0 l0.length l0) (hc0 : l0.length ≤ c0) (h : slices_Index_int_int.f k l0 a1 = some r) :
    Calls Try.prog 78 #[.slice A0 l0.length c0, .int .i64 a1] w fun e w' => e = .returned (.int .i64 r) ∧ Drawn0 w w' := by
  have HR0 := Aside0.mk hr0
  have HC0 := Aside0.mk hc0
  clear hr0 hc0
  have H : (slices_Index_int_int.l0 k l0 a1 (l0.length : Int) 0) = some r := h
  clear h
  have H' := Aside0.mk H
  clear H
  go_enter Try.func78, Try.ntmps78
  go_wp2
  go_loopg [8] k (fun kq v8 w' => ∃ (x8_1 : Int), v8 = .int .i64 x8_1 ∧ Aside0 (slices_Index_int_int.l0 kq l0 a1 (l0.length : Int) x8_1 = some r) ∧ Aside0 (kq ≤ k) ∧ Drawn0 w w')
  case atStart => exact ⟨(0), (by first | rfl | (simp; done) | (simp [*]; done)), H', ⟨Nat.le_refl _⟩, by repeat (first | exact Drawn0.refl _ | apply Drawn0.step)⟩
  case round =>
    clear H'
    try clear p2
    obtain ⟨x8_1, rfl, HA, HK1, ⟨m1, rfl⟩⟩ := hrel
    cases gk with
    | zero => exact absurd HA.out (by simp [slices_Index_int_int.l0])
    | succ k1 =>
      have H := HA.out
      clear HA
      simp only [slices_Index_int_int.l0] at H
      by_cases c3 : x8_1 < (l0.length : Int)
      · rw [if_pos c3] at H
        have c3b0 : decide (x8_1 < (l0.length : Int)) = true := decide_eq_true c3
        clear c3
        by_cases c4 : 0 ≤ x8_1
        · rw [if_pos c4] at H
          have c4b0 : decide (0 ≤ x8_1) = true := decide_eq_true c4
          clear c4
          by_cases c5 : x8_1 < (l0.length : Int)
          · rw [if_pos c5] at H
            have c5b0 : decide (x8_1 < (l0.length : Int)) = true := decide_eq_true c5
            clear c5
            by_cases c6 : a1 = (rd l0 x8_1)
            · rw [if_pos c6] at H
              have c6b0 : (a1 == (rd l0 x8_1)) = true := beq_iff_eq.mpr c6
              have c6b1 : (a1 != (rd l0 x8_1)) = false := bne_eq_false_iff_eq.mpr c6
              clear c6
              obtain rfl := Option.some.inj H
              have p338 : 0 ≤ (x8_1 : Int) := of_decide_eq_true (by first | (with_reducible assumption) | assumption)
              have q338 : x8_1 < (l0.length : Int) := of_decide_eq_true (by first | (with_reducible assumption) | assumption)
              obtain ⟨ad338, e338, hx338_0⟩ := Kd.at_int HR0.out x8_1 p338 q338
              cases e338
              replace p338 := eq_true p338
              replace q338 := eq_true q338
              go_wp2
              go_ret
              exact ⟨by first | rfl | (simp; done) | (simp [*]; done), by repeat (first | exact Drawn0.refl _ | apply Drawn0.step)⟩
            · rw [if_neg c6] at H
              have c6b0 : (a1 == (rd l0 x8_1)) = false := beq_eq_false_iff_ne.mpr c6
              have c6b1 : (a1 != (rd l0 x8_1)) = true := bne_iff_ne.mpr c6
              have H' := Aside0.mk H
              clear H
              have p338 : 0 ≤ (x8_1 : Int) := of_decide_eq_true (by first | (with_reducible assumption) | assumption)
              have q338 : x8_1 < (l0.length : Int) := of_decide_eq_true (by first | (with_reducible assumption) | assumption)
              obtain ⟨ad338, e338, hx338_0⟩ := Kd.at_int HR0.out x8_1 p338 q338
              cases e338
              replace p338 := eq_true p338
              replace q338 := eq_true q338
              go_wp2
              go_roundg k1
              case measure => have := HK1.out; omega
              case rel => exact ⟨(wrap64 (x8_1 + 1)), (by first | rfl | (simp; done) | (simp [*]; done)), H', ⟨by have := HK1.out; omega⟩, by repeat (first | exact Drawn0.refl _ | apply Drawn0.step)⟩
          · rw [if_neg c5] at H
            exact absurd H (by simp)
        · rw [if_neg c4] at H
          exact absurd H (by simp)
      · rw [if_neg c3] at H
        have c3b0 : decide (x8_1 < (l0.length : Int)) = false := decide_eq_false c3
        clear c3
        obtain rfl := Option.some.inj H
        go_wp2
        go_ret
        exact ⟨by first | rfl | (simp; done) | (simp [*]; done), by repeat (first | exact Drawn0.refl _ | apply Drawn0.step)⟩

/-! ### slices_Contains_int_int: function 65 -/
def slices_Contains_int_int.f (k : Nat) (l0 : List Int) (a1 : Int) : Option (Bool) := (slices_Index_int_int.f k l0 a1).bind fun t339 => (some (decide (t339 ≥ 0)))
theorem slices_Contains_int_int.mono : ∀ a0 a1 k, LeO (slices_Contains_int_int.f k a0 a1) (slices_Contains_int_int.f (k + 1) a0 a1) := by
  intro a0 a1 k
  unfold slices_Contains_int_int.f
  repeat' first
      | (with_reducible exact slices_Index_int_int.mono _ _ _)
      | (with_reducible exact LeO.refl _)
      | (with_reducible exact LeO.none _)
      | (with_reducible refine LeO.ite ?_ ?_)
      | (with_reducible refine LeO.bind ?_ (fun _ => ?_))
      | exact slices_Index_int_int.mono _ _ _
      | exact LeO.none _
      | refine LeO.ite ?_ ?_
      | refine LeO.bind ?_ (fun _ => ?_)
set_option maxHeartbeats 8000000 in
set_option maxRecDepth 100000 in
theorem slices_Contains_int_int.calls (k : Nat) (A0 : Option Addr) (c0 : Nat) (l0 : List Int) (a1 : Int) (r : Bool) (w : World) (hr0 : Kd.C (Kd.int .i64) w A0 l0.length l0) (hc0 : l0.length ≤ c0) (h : slices_Contains_int_int.f k l0 a1 = some r) :
    Calls Try.prog 65 #[.slice A0 l0.length c0, .int .i64 a1] w fun e w' => e = .returned (.bool r) ∧ Drawn0 w w' := by
  have HR0 := Aside0.mk hr0
  have HC0 := Aside0.mk hc0
  clear hr0 hc0
  have H : ((slices_Index_int_int.f k l0 a1).bind fun t339 => (some (decide (t339 ≥ 0)))) = some r := h
  clear h
  replace H := Option.bind_eq_some_iff.mp H
  obtain ⟨t339, A30, H⟩ := H
  replace H : (some (decide (t339 ≥ 0))) = some r := H
  have A3 := Aside0.mk A30
  clear A30
  obtain rfl := Option.some.inj H
  go_enter Try.func65, Try.ntmps65
  go_wp2_with (first | ((with_reducible refine gate_callee (f := 78) rfl ?_); refine goesL_ (some 7) rfl rfl Try.func78 (by kernel_rfl) rfl #[.slice A0 l0.length c0, .int .i64 a1] rfl (by (try simp only [List.map_toArray, List.map_cons, List.map_nil]); first | done | rfl | (simp only [List.length_drop, List.length_take]; rfl)) ?_; (with_reducible refine (slices_Index_int_int.calls k _ _ l0 a1 t339 _ ?side1 ?side2 A3.out).mono ?_); (case side1 => repeat (first | exact HR0.out | (with_reducible refine Kd.C_alloc ?_ _) | (with_reducible refine Kd.C_drewN ?_ _) | (with_reducible refine Kd.C_drew ?_))); (case side2 => exact HC0.out); rintro e w' ⟨rfl, ⟨nd, rfl⟩⟩; refine ⟨_, rfl, ?_⟩))
  go_ret
  exact ⟨by first | rfl | (simp; done) | (simp [*]; done), by repeat (first | exact Drawn0.refl _ | apply Drawn0.step)⟩

/-! ### impl_BestOrder: function 24 (given) -/
structure BI (w0 w : World) (g : Nat) (Aw : Option Addr) (cw nw : Nat) (Ar : Option Addr) (cr nr : Nat) (st : BSt) (v : Value) : Prop where
  inv : BInv w0 w g st v
  hw : w.heap[w0.heap.size]? = some (.cells #[.slice Aw nw cw] 22 (0, 0))
  hr : w.heap[w0.heap.size + 1]? = some (.cells #[.slice Ar nr cr] 22 (0, 0))
  lo2 : w0.heap.size + 2 ≤ g
theorem BI.step {w0 w w1 : World} {g : Nat} {Aw : Option Addr} {cw nw : Nat} {Ar : Option Addr} {cr nr : Nat} {st : BSt} {v : Value} (h : BI w0 w g Aw cw nw Ar cr nr st v) (hb : Below w.heap.size w w1) : BI w0 w1 g Aw cw nw Ar cr nr st v :=
  ⟨h.inv.step hb, blk_below h.hw hb, blk_below h.hr hb, h.lo2⟩
theorem BI.put {w0 w : World} {g : Nat} {Aw : Option Addr} {cw nw : Nat} {Ar : Option Addr} {cr nr : Nat} {st : BSt} {v : Value} (h : BI w0 w g Aw cw nw Ar cr nr st v) (n : Int) (u : Value) (s : List Int) (hu : (Kd.int .i64).R 3 w w0.heap.size (fun k => ¬ BS g k) u s) :
    BI w0 ((w.setCell ⟨g, 0, none⟩ u).setCell ⟨g + 1, 0, none⟩ (.int .i64 n)) g Aw cw nw Ar cr nr (s, n) u := by
  have h2 := h.lo2
  have far : ∀ k, k < g → ((w.setCell ⟨g, 0, none⟩ u).setCell ⟨g + 1, 0, none⟩ (.int .i64 n)).heap[k]? = w.heap[k]? := fun k hk => by
    rw [Below.heap_setCell _ _ _ k (by show k ≠ g + 1; omega), Below.heap_setCell _ _ _ k (by show k ≠ g; omega)]
  exact ⟨h.inv.put n u s hu, (far _ (by omega)).trans h.hw, (far _ (by omega)).trans h.hr, h2⟩
def impl_BestOrder.step (k : Nat) (ws rs : List Int) (st : BSt) (s : List Int) : Option BSt :=
  if boIn rs s = true then (impl_leastTime.f k ws (boOwn rs s)).bind fun t => some (if t.1 < st.2 then (s, t.1) else st) else none
def impl_BestOrder.ord (k : Nat) (ws rs : List Int) : Nat → List Int → BSt → Option BSt
  | 0, bg, st => impl_BestOrder.step k ws rs st bg
  | d + 1, bg, st => bLoop (fun i st => (slices_Contains_int_int.f k bg (i : Int)).bind fun c => if c = true then some st else impl_BestOrder.ord k ws rs d (bg ++ [(i : Int)]) st) rs.length 0 st
set_option maxRecDepth 100000 in
set_option maxHeartbeats 8000000 in
theorem impl_BestOrder.visit (k : Nat) {w0 w : World} {g : Nat} {Aw : Option Addr} {cw : Nat} {Ar : Option Addr} {cr : Nat} (ws rs : List Int) (hrw : Kd.C (Kd.int .i64) w0 Aw ws.length ws) (hcw : ws.length ≤ cw) (hrr : Kd.C (Kd.int .i64) w0 Ar rs.length rs) (hcr : rs.length ≤ cr)
    (bg : List Int) (u v : Value) (st st' : BSt) (hI : BI w0 w g Aw cw ws.length Ar cr rs.length st v) (hu : (Kd.int .i64).R 3 w w0.heap.size (fun k => ¬ BS g k) u bg) (hb100 : bg.length ≤ 100) (hst : impl_BestOrder.step k ws rs st bg = some st') :
    Calls Try.prog 43 #[u, .pointer (some ⟨w0.heap.size + 1, 0, none⟩), .pointer (some ⟨w0.heap.size, 0, none⟩), .pointer (some ⟨g + 1, 0, none⟩), .pointer (some ⟨g, 0, none⟩)] w fun e w' => e = .returned (.tuple #[]) ∧ (∃ v', BI w0 w' g Aw cw ws.length Ar cr rs.length st' v') ∧ Kept w w' (BS g) := by
  obtain ⟨Au, cu, rfl⟩ := Kd.R_slice hu
  unfold impl_BestOrder.step at hst
  have hin : boIn rs bg = true := by
    rcases hq : boIn rs bg with _ | _
    · rw [hq] at hst; simp at hst
    · rfl
  rw [if_pos hin] at hst
  obtain ⟨t, ht, hst⟩ := Option.bind_eq_some_iff.mp hst
  have hst2 := Option.some.inj hst
  obtain ⟨t1, t2, t3⟩ := t
  have hru := Kd.R_reads' hu
  have hHU := Aside0.mk hu
  have HI := Aside0.mk hI
  have HIn := Aside0.mk (boIn_get rs bg hin)
  have HT := Aside0.mk ht
  have HW := Aside0.mk hrw
  have HRr := Aside0.mk hrr
  have HC := Aside0.mk hru.2.2
  have HS := Aside0.mk hst2
  have HHc := Aside0.mk hcw
  clear hu hI hst hst2 hin ht hrw hrr hru hcw
  go_enter Try.func43, Try.ntmps43
  go_wp2
  go_loopg [6, 8, 15] bg.length (fun gg v6 _ s15 wr => ∃ (i : Nat) (L : List Int), s15 = .int .i64 (i : Int) ∧ i ≤ bg.length ∧ bg.length - i ≤ gg ∧ Aside0 (L = boOwn rs (bg.take i)) ∧ L.length ≤ i ∧ Aside0 ((Kd.int .i64).R 3 wr w.heap.size (fun _ => True) v6 L) ∧ Aside0 (Below w.heap.size w wr))
  case atStart => exact ⟨0, [], by go_num, Nat.zero_le _, by omega, ⟨by simp [boOwn]⟩, Nat.le_refl _, ⟨bo_empty (blk_new w _) (Nat.le_refl _) trivial⟩, ⟨below_alloc (Below.refl _ _) _⟩⟩
  case round =>
    obtain ⟨i, L, rfl, hin, hgg, HL, hLl, HO, HB⟩ := hrel
    by_cases hlt : i < bg.length
    · have d2 : decide ((i : Int) < (bg.length : Int)) = true := decide_eq_true (by omega)
      have p0 := eq_true (show 0 ≤ (i : Int) by omega)
      have p1 := eq_true (show (i : Int) < (bg.length : Int) by omega)
      obtain ⟨ad, e, hx0⟩ := Kd.at_int (Kd.C_below HC.out HB.out) (i : Int) (by omega) (by omega)
      cases e
      rw [Int.toNat_natCast] at hx0
      have hrd : rd bg (i : Int) = bg[i] := by simp [rd, List.getElem?_eq_getElem hlt, List.getD_eq_getElem?_getD]
      have hbd := HIn.out i hlt
      have hnext := boOwn_take rs bg i hlt
      rw [hrd] at hx0
      clear hrd
      generalize bg[i] = x at hx0 hbd hnext
      obtain ⟨ad2, e2, hx1⟩ := Kd.at_int (Kd.C_below (Kd.C_below HRr.out HI.out.inv.below) HB.out) x hbd.1 hbd.2
      cases e2
      have q0 := eq_true hbd.1
      have q1 := eq_true hbd.2
      have HN := Aside0.mk hnext
      have fr := cell_of_one (blk_below HI.out.hr HB.out)
      clear hnext hbd
      generalize rd rs x = y at hx1 HN
      go_wp2_with (first | ((with_reducible refine gate_builtin (b := .append) (xs := #[.tmp 19, .tmp 24]) rfl ?_); go_loud (at_builtin; refine Kd.R_append (Kd.int .i64) (w0 := w) w.heap.size rfl (.tmp 19) (.tmp 24) 22 3 (.int .i64 0) 8 rfl Try.underlying22 info3 rfl (by decide) (by omega) u6 L y [.int .i64 y] (fun _ => True) (fun _ => False) rfl (by first | rfl | (go_simp; done) | (go_simp; rfl)) ?aP (fun _ hk => hk.elim) ?aF ?aO ?aB ?aS ?aL ?_; (case aP => exact rfl); (case aF => exact fun _ _ => trivial); (case aO => exact HO.out); (case aB => exact HB.out); (case aS => exact below_size HB.out); (case aL => omega); intro v1b w1b ho hb hg hat; have HO2 := Aside0.mk ho; have HB2 := Aside0.mk hb; clear ho hb hg hat)))
      go_roundg (bg.length - (i + 1))
      case measure => omega
      case rel => exact ⟨i + 1, L ++ [y], by go_num, by omega, Nat.le_refl _, ⟨by rw [HL.out]; exact HN.out⟩, by rw [List.length_append, List.length_singleton]; omega, HO2, HB2⟩
    · have d2 : decide ((i : Int) < (bg.length : Int)) = false := decide_eq_false (by omega)
      have hL : L = boOwn rs bg := by rw [HL.out, List.take_of_length_le (by omega)]
      subst hL
      obtain ⟨A1, c1, e1⟩ := Kd.R_slice HO.out
      subst e1
      have hLe := fun W hr1 hr2 => impl_leastTime.calls k Aw cw ws A1 c1 (boOwn rs bg) t1 t2 t3 W hr1 HHc.out hr2 (Kd.R_reads' HO.out).2.1 HT.out
      obtain ⟨best, least⟩ := st
      have fw := cell_of_one (blk_below HI.out.hw HB.out)
      have hs2 := HS.out
      simp only at hs2
      by_cases c2 : t1 < least
      · rw [if_pos c2] at hs2
        subst hs2
        have e1 : decide (t1 < least) = true := decide_eq_true c2
        clear c2
        go_wp2_with (first | (go_at_call 34; go_loud (refine (hLe _ (Kd.C_below (Kd.C_below HW.out HI.out.inv.below) HB.out) (Kd.R_reads' HO.out).2.2).mono ?_; rintro e w5 ⟨v5, rfl, hR5, hb5⟩; have hq := below_step HB.out hb5; have hI5 := HI.out.step hq; have f7 := cell_of_one hI5.inv.h7; have f8 := cell_of_one hI5.inv.h8; have g7 := free_of_one hI5.inv.h7; have g8 := free_of_one hI5.inv.h8)))
        go_end0
        exact ⟨rfl, ⟨_, hI5.put t1 _ bg (Kd.R_below hHU.out hq)⟩, BInv.kept hq t1 _⟩
      · rw [if_neg c2] at hs2
        subst hs2
        have e1 : decide (t1 < least) = false := decide_eq_false c2
        clear c2
        go_wp2_with (first | (go_at_call 34; go_loud (refine (hLe _ (Kd.C_below (Kd.C_below HW.out HI.out.inv.below) HB.out) (Kd.R_reads' HO.out).2.2).mono ?_; rintro e w5 ⟨v5, rfl, hR5, hb5⟩; have hq := below_step HB.out hb5; have hI5 := HI.out.step hq; have f7 := cell_of_one hI5.inv.h7; have f8 := cell_of_one hI5.inv.h8; have g7 := free_of_one hI5.inv.h7; have g8 := free_of_one hI5.inv.h8)))
        go_end0
        exact ⟨rfl, ⟨_, hI5⟩, Kept.of_below hq _⟩
set_option maxRecDepth 100000 in
set_option maxHeartbeats 8000000 in
theorem impl_BestOrder.orders (k : Nat) {w0 : World} {g : Nat} {Aw : Option Addr} {cw : Nat} {Ar : Option Addr} {cr : Nat} (ws rs : List Int) (hrw : Kd.C (Kd.int .i64) w0 Aw ws.length ws) (hcw : ws.length ≤ cw) (hrr : Kd.C (Kd.int .i64) w0 Ar rs.length rs) (hcr : rs.length ≤ cr) (hr100 : rs.length ≤ 100) :
    ∀ (d : Nat) (bg : List Int) (u v : Value) (w : World) (st st' : BSt), BI w0 w g Aw cw ws.length Ar cr rs.length st v → (Kd.int .i64).R 3 w w0.heap.size (fun k => ¬ BS g k) u bg → bg.length + d = rs.length → impl_BestOrder.ord k ws rs d bg st = some st' →
    Calls Try.prog 42 #[.int .i64 (rs.length : Int), u, .func (.func 43) #[] #[.pointer (some ⟨w0.heap.size + 1, 0, none⟩), .pointer (some ⟨w0.heap.size, 0, none⟩), .pointer (some ⟨g + 1, 0, none⟩), .pointer (some ⟨g, 0, none⟩)]] w fun e w' => e = .returned (.tuple #[]) ∧ (∃ v', BI w0 w' g Aw cw ws.length Ar cr rs.length st' v') ∧ Kept w w' (BS g) := by
  have eg : ∀ args w, (callFunc 43 args).run Try.prog w = .ok (.enter 43 args) w := enters_of Try.func43 (by kernel_rfl) rfl
  intro d
  induction d with
  | zero =>
    intro bg u v w st st' hI hu hl hst
    have hvis := impl_BestOrder.visit k ws rs hrw hcw hrr hcr bg u v st st' hI hu (by omega) hst
    obtain ⟨Au, cu, rfl⟩ := Kd.R_slice hu
    have dl : ((bg.length : Int) == (rs.length : Int)) = true := beq_iff_eq.mpr (by omega)
    clear hI hu hl hst hrw hrr hcw hcr
    go_enter Try.func42, Try.ntmps42
    go_wp2_with (first | (go_at_fn 43; go_loud (refine hvis.mono ?_; rintro e w' ⟨rfl, hI2, hk⟩)))
    refine bodyPost_ret (results_none rfl _ _ _) rfl ?_
    exact ⟨rfl, hI2, hk⟩
  | succ d ih =>
    intro bg u v w st st' hI hu hl hst
    obtain ⟨Au, cu, rfl⟩ := Kd.R_slice hu
    have hru := Kd.R_reads' hu
    have hHasC := fun (x : Int) (c : Bool) W hr h => slices_Contains_int_int.calls k Au cu bg x c W hr hru.2.1 h
    have dl : ((bg.length : Int) == (rs.length : Int)) = false := beq_eq_false_iff_ne.mpr (by omega)
    obtain ⟨i0, hi0, _, hsz0, _⟩ := info_parts info3
    have hcut := cut_full Try.underlying22 hi0 hsz0 Au bg.length cu hru.2.1
    unfold impl_BestOrder.ord at hst
    have HU := Aside0.mk hu
    have HI := Aside0.mk hI
    have HS := Aside0.mk hst
    have HIH := Aside0.mk ih
    have HL := Aside0.mk hl
    have hb100 : bg.length ≤ 100 := by omega
    clear hu hI hst ih hl hrw hrr hcw hcr hru hi0 hsz0
    go_enter Try.func42, Try.ntmps42
    go_wp2
    go_loopg [6, 15] rs.length (fun gg _ s15 wr => ∃ (i : Nat) (sti : BSt) (vi : Value), s15 = .int .i64 (i : Int) ∧ i ≤ rs.length ∧ rs.length - i ≤ gg ∧ Aside0 (bLoop (fun i st => (slices_Contains_int_int.f k bg (i : Int)).bind fun c => if c = true then some st else impl_BestOrder.ord k ws rs d (bg ++ [(i : Int)]) st) (rs.length - i) i sti = some st') ∧ Aside0 (BI w0 wr g Aw cw ws.length Ar cr rs.length sti vi) ∧ Aside0 (Kept w wr (BS g)))
    case atStart => exact ⟨0, st, v, by go_num, Nat.zero_le _, by omega, HS, HI, ⟨Kept.refl _ _⟩⟩
    case round =>
      clear HS
      obtain ⟨i, sti, vi, rfl, hib, hgg, HVi, HIi, HK⟩ := hrel
      by_cases hlt : i < rs.length
      · have d1 : decide ((i : Int) < (rs.length : Int)) = true := decide_eq_true (by omega)
        have hi1 : rs.length - i = (rs.length - (i + 1)) + 1 := by omega
        have hvi := HVi.out
        rw [hi1, bLoop] at hvi
        obtain ⟨st1, hv1, hv2⟩ := Option.bind_eq_some_iff.mp hvi
        obtain ⟨c, hc, hv1⟩ := Option.bind_eq_some_iff.mp hv1
        have hub := Kd.R_step (w1 := wr) HU.out (fun k hk hlt => HK.out.2 k hlt hk)
        have hhas := fun W hr => hHasC (i : Int) c W hr hc
        have HUi := Aside0.mk hub
        have HV2 := Aside0.mk hv2
        have HV1 := Aside0.mk hv1
        clear hub hv2 hvi HVi hi1 hc hHasC hv1
        cases c with
        | true =>
          have hv1 := HV1.out
          rw [if_pos rfl] at hv1
          obtain rfl := Option.some.inj hv1
          clear HV1 hv1
          go_wp2_with (first | (go_at_call 65; go_loud (refine (hhas _ (Kd.R_reads' HUi.out).2.2).mono ?_; rintro e w' ⟨rfl, ⟨q, rfl⟩⟩)))
          have hq := pw_below_drewN (Below.refl wr.heap.size wr) q
          go_roundg (rs.length - (i + 1))
          case measure => omega
          case rel => exact ⟨i + 1, sti, vi, by go_num, by omega, Nat.le_refl _, HV2, ⟨HIi.out.step hq⟩, ⟨HK.out.then_ (Kept.of_below hq (BS g)) (fun _ h => .inl h)⟩⟩
        | false =>
          have hv1 := HV1.out
          rw [if_neg (by simp)] at hv1
          have HV3 := Aside0.mk hv1
          clear HV1 hv1
          have h6 := HIi.out.inv.size
          have h6b := HIi.out.inv.lo
          go_wp2_with (first | (go_at_call 65; go_loud (refine (hhas _ (Kd.R_reads' HUi.out).2.2).mono ?_; rintro e w' ⟨rfl, ⟨q, rfl⟩⟩)) | ((with_reducible refine gate_builtin (b := .append) (xs := #[.tmp 28, .tmp 30]) rfl ?_); go_loud (at_builtin; refine wp_append_fresh (w0 := w0) w0.heap.size rfl (.tmp 28) (.tmp 30) 22 3 (.int .i64 0) 8 rfl Try.underlying22 info3 rfl (by decide) Au bg (i : Int) (fun k => ¬ BS g k) rfl (by first | rfl | (go_simp; done) | (go_simp; rfl)) ?aF ?aO ?aS ?aL ?_; (case aF => intro k hk; have hk' : wr.heap.size ≤ k := hk; unfold BS; omega); (case aO => exact Kd.C_drewN (Kd.R_reads' HUi.out).2.2 q); (case aS => show w0.heap.size ≤ wr.heap.size; omega); (case aL => omega); intro v1 w1 hR1 hb1; have hbw : Below wr.heap.size wr w1 := below_step (pw_below_drewN (Below.refl wr.heap.size wr) q) hb1; have HR1 := Aside0.mk hR1; have HB1 := Aside0.mk hbw; clear hR1 hb1 hbw)) | (go_at_call 42; go_loud (refine (HIH.out (bg ++ [(i : Int)]) v1 vi w1 sti st1 (HIi.out.step HB1.out) HR1.out (by have := HL.out; rw [List.length_append, List.length_singleton]; omega) HV3.out).mono ?_; rintro e w' ⟨rfl, ⟨v2, hI2⟩, hk⟩)))
          go_roundg (rs.length - (i + 1))
          case measure => omega
          case rel => exact ⟨i + 1, st1, v2, by go_num, by omega, Nat.le_refl _, HV2, ⟨hI2⟩, ⟨HK.out.then_ ((Kept.of_below HB1.out (BS g)).then_ hk (fun _ h => .inl h)) (fun _ h => .inl h)⟩⟩
      · have d1 : decide ((i : Int) < (rs.length : Int)) = false := decide_eq_false (by omega)
        have e0 : rs.length - i = 0 := by omega
        have hvi := HVi.out
        rw [e0] at hvi
        have hvi2 : some sti = some st' := hvi
        obtain rfl := Option.some.inj hvi2
        have HE := Aside0.mk HIi.out
        clear hvi hvi2 HVi e0
        go_wp2
        go_end0
        exact ⟨rfl, ⟨_, HE.out⟩, HK.out⟩
theorem impl_BestOrder.mono_ord (k : Nat) (ws rs : List Int) : ∀ (d : Nat) (bg : List Int) (st : BSt), LeO (impl_BestOrder.ord k ws rs d bg st) (impl_BestOrder.ord (k + 1) ws rs d bg st)
  | 0, bg, st => LeO.ite (LeO.bind (impl_leastTime.mono _ _ k) (fun _ => LeO.refl _)) (LeO.refl _)
  | d + 1, bg, st => bLoop_mono (fun i st => LeO.bind (slices_Contains_int_int.mono _ _ k) (fun _ => LeO.ite (LeO.refl _) (impl_BestOrder.mono_ord k ws rs d _ _))) _ _ _
def impl_BestOrder.f (k : Nat) (ws rs : List Int) : Option (List Int × Int × Bool) :=
  (impl_areRated.f ws rs).bind fun b => if b = true then (if rs.length ≤ 100 then (impl_BestOrder.ord k ws rs rs.length [] ([], 1099511627776)).bind fun st => some (st.1, st.2, true) else none) else some ([], 0, false)
theorem impl_BestOrder.mono : ∀ a0 a1 k, LeO (impl_BestOrder.f k a0 a1) (impl_BestOrder.f (k + 1) a0 a1) := by
  intro a0 a1 k
  unfold impl_BestOrder.f
  exact LeO.bind (LeO.refl _) (fun _ => LeO.ite (LeO.ite (LeO.bind (impl_BestOrder.mono_ord k a0 a1 _ _ _) (fun _ => LeO.refl _)) (LeO.refl _)) (LeO.refl _))
theorem bi_start (w w1 : World) {Aw : Option Addr} {cw nw : Nat} {Ar : Option Addr} {cr nr : Nat} (hb : Below w.heap.size w w1) (b1 : w1.heap[w.heap.size]? = some (.cells #[.slice Aw nw cw] 22 (0, 0))) (b2 : w1.heap[w.heap.size + 1]? = some (.cells #[.slice Ar nr cr] 22 (0, 0))) (n : Int) :
    BI w (((w1.alloc (.cells #[] 3)).alloc (.cells #[.slice (some ⟨w1.heap.size, 0, none⟩) 0 0] 22)).alloc (.cells #[.int .i64 n] 3)) (w1.heap.size + 1) Aw cw nw Ar cr nr ([], n) (.slice (some ⟨w1.heap.size, 0, none⟩) 0 0) := by
  have s1 : (w1.alloc (.cells #[] 3)).heap.size = w1.heap.size + 1 := by simp
  have hl2 := blk_lt b2
  have h := bo_start w (w1.alloc (.cells #[] 3)) (below_alloc hb _) (.slice (some ⟨w1.heap.size, 0, none⟩) 0 0) n (fun W hW => bo_empty (blk_below (blk_new w1 _) hW) hb.size (by rw [s1]; unfold BS; omega))
  rw [s1] at h
  exact ⟨h, blk_alloc (blk_alloc (blk_alloc b1 _) _) _, blk_alloc (blk_alloc (blk_alloc b2 _) _) _, by omega⟩
set_option maxRecDepth 100000 in
set_option maxHeartbeats 8000000 in
theorem impl_BestOrder.calls (k : Nat) (A0 : Option Addr) (c0 : Nat) (l0 : List Int) (A1 : Option Addr) (c1 : Nat) (l1 : List Int) (r1 : List Int) (r2 : Int) (r3 : Bool) (w : World) (hr0 : Kd.C (Kd.int .i64) w A0 l0.length l0) (hc0 : l0.length ≤ c0) (hr1 : Kd.C (Kd.int .i64) w A1 l1.length l1) (hc1 : l1.length ≤ c1) (h : impl_BestOrder.f k l0 l1 = some (r1, r2, r3)) :
    Calls Try.prog 24 #[.slice A0 l0.length c0, .slice A1 l1.length c1] w fun e w' => ∃ v0_ : Value, e = .returned (.tuple #[v0_, .int .i64 r2, .bool r3]) ∧ Kd.R (Kd.int .i64) 3 w' w.heap.size (fun _ => True) v0_ r1 ∧ Below w.heap.size w w' := by
  have hmf : ∀ (fn : Fn) (first cap : Array Value) (w : World), (Instr.makeFunc fn first cap).run Try.prog w = .ok (.func fn first cap) w := fun _ _ _ _ => rfl
  unfold impl_BestOrder.f at h
  obtain ⟨b, hb, h⟩ := Option.bind_eq_some_iff.mp h
  have hrated := fun W h0 h1 => impl_areRated.calls A0 c0 l0 A1 c1 l1 b W h0 hc0 h1 hc1 hb
  have HR0 := Aside0.mk hr0
  have HR1 := Aside0.mk hr1
  clear hb
  have hbb : Below w.heap.size w ((w.alloc (.cells #[.slice A0 l0.length c0] 22)).alloc (.cells #[.slice A1 l1.length c1] 22)) := below_alloc (below_alloc (Below.refl _ _) _) _
  have s1 : (w.alloc (.cells #[.slice A0 l0.length c0] 22)).heap.size = w.heap.size + 1 := by simp
  have s2 : ((w.alloc (.cells #[.slice A0 l0.length c0] 22)).alloc (.cells #[.slice A1 l1.length c1] 22)).heap.size = w.heap.size + 2 := by simp
  have b1 := blk_alloc (blk_new w (.cells #[.slice A0 l0.length c0] 22 (0, 0))) (.cells #[.slice A1 l1.length c1] 22 (0, 0))
  have b2 := blk_new (w.alloc (.cells #[.slice A0 l0.length c0] 22)) (.cells #[.slice A1 l1.length c1] 22 (0, 0))
  rw [s1] at b2
  have HBB := Aside0.mk hbb
  have B1 := Aside0.mk b1
  have B2 := Aside0.mk b2
  have S2 := Aside0.mk s2
  clear hbb b1 b2 s1 s2
  cases b with
  | false =>
    simp only [Bool.false_eq_true, if_false] at h
    obtain ⟨rfl, rfl, rfl⟩ : [] = r1 ∧ 0 = r2 ∧ false = r3 := by simpa using h
    clear h hr0 hr1
    go_enter Try.func24, Try.ntmps24
    go_wp2_with (go_at_call 33; go_loud (refine (hrated _ (Kd.C_below HR0.out HBB.out) (Kd.C_below HR1.out HBB.out)).mono ?_; rintro e w1 ⟨rfl, hb1⟩))
    go_ret3
    exact ⟨_, rfl, Kd.R_nil _ _ _ _ _, below_step HBB.out hb1⟩
  | true =>
    simp only [if_true] at h
    by_cases hlen : l1.length ≤ 100
    · rw [if_pos hlen] at h
      obtain ⟨st, ho, h⟩ := Option.bind_eq_some_iff.mp h
      obtain ⟨best, least⟩ := st
      obtain ⟨rfl, rfl, rfl⟩ : best = r1 ∧ least = r2 ∧ true = r3 := by simpa using h
      have hsh := fun g u v w1 hI hu => impl_BestOrder.orders k (w0 := w) (g := g) (Aw := A0) (cw := c0) (Ar := A1) (cr := c1) l0 l1 hr0 hc0 hr1 hc1 hlen l1.length [] u v w1 ([], 1099511627776) (best, least) hI hu (by simp) ho
      clear h ho hr0 hr1
      go_enter Try.func24, Try.ntmps24
      go_wp2_with (first | (go_at_call 33; go_loud (refine (hrated _ (Kd.C_below HR0.out HBB.out) (Kd.C_below HR1.out HBB.out)).mono ?_; rintro e w1 ⟨rfl, hb1⟩; have hbw := below_step HBB.out hb1; have n1 := Aside0.mk (blk_below B1.out hb1); have n2 := Aside0.mk (blk_below B2.out hb1); have hsz := hb1.size; have f1 := cell_of_one n1.out; have f2 := cell_of_one n2.out; have lt1 := blk_lt n1.out; have lt2 := blk_lt n2.out; have HBW := Aside0.mk hbw; clear hbw)) | (go_at_call 42; go_loud (refine (hsh (w1.heap.size + 1) _ _ _ (bi_start w w1 HBW.out n1.out n2.out 1099511627776) (Kd.R_nil _ _ _ _ _)).mono ?_; rintro e w' ⟨rfl, ⟨v2, hI2⟩, hk⟩; have f7 : w'.cell? ⟨w1.heap.size + 1, 0, none⟩ = some v2 := cell_of_one hI2.inv.h7; have f8 : w'.cell? ⟨w1.heap.size + 1 + 1, 0, none⟩ = some (.int .i64 least) := cell_of_one hI2.inv.h8)))
      repeat (go_quiet (fail); try go_wp2)
      go_ret3
      exact ⟨_, rfl, Kd.R_drewN (Kd.R_mono hI2.inv.row (fun _ _ => trivial)) _, pw_below_drewN hI2.inv.below _⟩
    · rw [if_neg hlen] at h
      exact absurd h (by simp)

end Go.Proofs.Ytcnancjkajbldaa.P
