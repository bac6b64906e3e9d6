-- Printed by wip/pp.py of this claim's session (the kit's print over functions that are given by hand). Not trusted: Lean checks it.
import Derived.Test.YtnkpdcidlnjnpaaPx0
import Derived.Test.YtnkpdcidlnjnpaaPx9
namespace Go.Proofs.Ytnkpdcidlnjnpaa.P
open Go.RowKit Go.Proofs.YtnkpdcidlnjnpaaW.PrintWords Go.Proofs.YtnkpdcidlnjnpaaW.PrintLast Go.Proofs.YtnkpdcidlnjnpaaW.PrintMore
attribute [local go_sem] max2_int min2_int max_two min_two max_three min_three max_four min_four   -- for this text's walks alone
set_option linter.unusedVariables false
set_option linter.unusedSimpArgs false

/-! ### spec_coEnds: function 41 -/
mutual
def spec_coEnds.l0 : Nat → ByteArray → Int → Int → Int → Int → List Int → Int → Int → Option (Int)
  | 0, _, _, _, _, _, _, _, _ => none
  | k + 1, x0, x1, x2, x3, x4, x11, x24, x25 => if x25 < x24 then (if 0 ≤ x25 then (if x25 < (x11.length : Int) then ((some (x11.set (x25 : Int).toNat 1 : List Int)).bind fun y149 => (if x25 = x4 then (spec_coEnds.l0 k x0 x1 x2 x3 x4 (y149.set (x25 : Int).toNat 0) x24 (wrap64 (x25 + 1))) else (spec_coEnds.l0 k x0 x1 x2 x3 x4 y149 x24 (wrap64 (x25 + 1))))) else (none)) else (none)) else (if x2 = (x0.size : Int) then (if x3 < 0 then (some 1) else (if 0 ≤ x3 then (if x3 < (x11.length : Int) then (some (rd x11 x3)) else (none)) else (none))) else (spec_coEnds.l1 k x0 x1 x2 x3 x11 (wrap64 ((x0.size : Int) - 1))))
def spec_coEnds.l1 : Nat → ByteArray → Int → Int → Int → List Int → Int → Option (Int)
  | 0, _, _, _, _, _, _ => none
  | k + 1, x0, x1, x2, x3, x11, x13 => if x13 > x2 then (if 0 ≤ x1 then (if (x1 : Int).toNat ≤ 35184372088832 then ((some (List.replicate (x1 : Int).toNat 0 : List Int)).bind fun y152 => (spec_coEnds.l2 k x0 x1 x2 x3 x11 x13 y152 (y152.length : Int) 0)) else (none)) else (none)) else (spec_coEnds.l4 k x0 x2 x3 0 x11 (x11.length : Int) 0)
def spec_coEnds.l2 : Nat → ByteArray → Int → Int → Int → List Int → Int → List Int → Int → Int → Option (Int)
  | 0, _, _, _, _, _, _, _, _, _ => none
  | k + 1, x0, x1, x2, x3, x11, x13, x14, x59, x60 => if x60 < x59 then (spec_coEnds.l3 k x0 x1 x2 x3 x11 x13 x14 x60 x59 x60 x11 (x11.length : Int) 0) else (spec_coEnds.l1 k x0 x1 x2 x3 x14 (wrap64 (x13 - 1)))
def spec_coEnds.l3 : Nat → ByteArray → Int → Int → Int → List Int → Int → List Int → Int → Int → Int → List Int → Int → Int → Option (Int)
  | 0, _, _, _, _, _, _, _, _, _, _, _, _, _ => none
  | k + 1, x0, x1, x2, x3, x11, x13, x14, x15, x59, x60, x63, x64, x65 => if x65 < x64 then (if 0 ≤ x65 then (if x65 < (x63.length : Int) then (if x15 = x65 then (spec_coEnds.l3 k x0 x1 x2 x3 x11 x13 x14 x15 x59 x60 x63 x64 (wrap64 (x65 + 1))) else ((spec_coAllows.f x0 x13 x65).bind fun t156 => (if t156 = true then (if 0 ≤ x15 then (if x15 < (x14.length : Int) then (spec_coEnds.l3 k x0 x1 x2 x3 x11 x13 (x14.set (x15 : Int).toNat (wrap64 ((rd x14 x15) + (rd x63 x65)))) x15 x59 x60 x63 x64 (wrap64 (x65 + 1))) else (none)) else (none)) else (spec_coEnds.l3 k x0 x1 x2 x3 x11 x13 x14 x15 x59 x60 x63 x64 (wrap64 (x65 + 1)))))) else (none)) else (none)) else (spec_coEnds.l2 k x0 x1 x2 x3 x11 x13 x14 x59 (wrap64 (x60 + 1)))
def spec_coEnds.l4 : Nat → ByteArray → Int → Int → Int → List Int → Int → Int → Option (Int)
  | 0, _, _, _, _, _, _, _ => none
  | k + 1, x0, x2, x3, x18, x89, x90, x91 => if x91 < x90 then (if 0 ≤ x91 then (if x91 < (x89.length : Int) then (if x91 = x3 then (spec_coEnds.l4 k x0 x2 x3 x18 x89 x90 (wrap64 (x91 + 1))) else ((spec_coAllows.f x0 x2 x91).bind fun t160 => (if t160 = true then (spec_coEnds.l4 k x0 x2 x3 (wrap64 (x18 + (rd x89 x91))) x89 x90 (wrap64 (x91 + 1))) else (spec_coEnds.l4 k x0 x2 x3 x18 x89 x90 (wrap64 (x91 + 1)))))) else (none)) else (none)) else (some x18)
end
def spec_coEnds.f (k : Nat) (a0 : ByteArray) (a1 : Int) (a2 : Int) (a3 : Int) (a4 : Int) : Option (Int) := if 0 ≤ a1 then (if (a1 : Int).toNat ≤ 35184372088832 then ((some (List.replicate (a1 : Int).toNat 0 : List Int)).bind fun y146 => (spec_coEnds.l0 k a0 a1 a2 a3 a4 y146 (y146.length : Int) 0)) else (none)) else (none)
theorem spec_coEnds.mono_l : ∀ k, (∀ y0 y1 y2 y3 y4 y5 y6 y7, LeO (spec_coEnds.l0 k y0 y1 y2 y3 y4 y5 y6 y7) (spec_coEnds.l0 (k + 1) y0 y1 y2 y3 y4 y5 y6 y7)) ∧ (∀ y0 y1 y2 y3 y4 y5, LeO (spec_coEnds.l1 k y0 y1 y2 y3 y4 y5) (spec_coEnds.l1 (k + 1) y0 y1 y2 y3 y4 y5)) ∧ (∀ y0 y1 y2 y3 y4 y5 y6 y7 y8, LeO (spec_coEnds.l2 k y0 y1 y2 y3 y4 y5 y6 y7 y8) (spec_coEnds.l2 (k + 1) y0 y1 y2 y3 y4 y5 y6 y7 y8)) ∧ (∀ y0 y1 y2 y3 y4 y5 y6 y7 y8 y9 y10 y11 y12, LeO (spec_coEnds.l3 k y0 y1 y2 y3 y4 y5 y6 y7 y8 y9 y10 y11 y12) (spec_coEnds.l3 (k + 1) y0 y1 y2 y3 y4 y5 y6 y7 y8 y9 y10 y11 y12)) ∧ (∀ y0 y1 y2 y3 y4 y5 y6, LeO (spec_coEnds.l4 k y0 y1 y2 y3 y4 y5 y6) (spec_coEnds.l4 (k + 1) y0 y1 y2 y3 y4 y5 y6))
  | 0 => ⟨fun _ _ _ _ _ _ _ _ r h => by simp [spec_coEnds.l0] at h, fun _ _ _ _ _ _ r h => by simp [spec_coEnds.l1] at h, fun _ _ _ _ _ _ _ _ _ r h => by simp [spec_coEnds.l2] at h, fun _ _ _ _ _ _ _ _ _ _ _ _ _ r h => by simp [spec_coEnds.l3] at h, fun _ _ _ _ _ _ _ r h => by simp [spec_coEnds.l4] at h⟩
  | k + 1 => by
    obtain ⟨ih0, ih1, ih2, ih3, ih4⟩ := spec_coEnds.mono_l k
    refine ⟨?_, ?_, ?_, ?_, ?_⟩
    · intro y0 y1 y2 y3 y4 y5 y6 y7
      unfold spec_coEnds.l0
      repeat' first
      | (with_reducible exact ih0 _ _ _ _ _ _ _ _)
      | (with_reducible exact ih1 _ _ _ _ _ _)
      | (with_reducible exact ih2 _ _ _ _ _ _ _ _ _)
      | (with_reducible exact ih3 _ _ _ _ _ _ _ _ _ _ _ _ _)
      | (with_reducible exact ih4 _ _ _ _ _ _ _)
      | (with_reducible exact LeO.refl _)
      | (with_reducible exact LeO.none _)
      | (with_reducible refine LeO.ite ?_ ?_)
      | (with_reducible refine LeO.bind ?_ (fun _ => ?_))
      | exact ih0 _ _ _ _ _ _ _ _
      | exact ih1 _ _ _ _ _ _
      | exact ih2 _ _ _ _ _ _ _ _ _
      | exact ih3 _ _ _ _ _ _ _ _ _ _ _ _ _
      | exact ih4 _ _ _ _ _ _ _
      | exact LeO.none _
      | refine LeO.ite ?_ ?_
      | refine LeO.bind ?_ (fun _ => ?_)
    · intro y0 y1 y2 y3 y4 y5
      unfold spec_coEnds.l1
      repeat' first
      | (with_reducible exact ih0 _ _ _ _ _ _ _ _)
      | (with_reducible exact ih1 _ _ _ _ _ _)
      | (with_reducible exact ih2 _ _ _ _ _ _ _ _ _)
      | (with_reducible exact ih3 _ _ _ _ _ _ _ _ _ _ _ _ _)
      | (with_reducible exact ih4 _ _ _ _ _ _ _)
      | (with_reducible exact LeO.refl _)
      | (with_reducible exact LeO.none _)
      | (with_reducible refine LeO.ite ?_ ?_)
      | (with_reducible refine LeO.bind ?_ (fun _ => ?_))
      | exact ih0 _ _ _ _ _ _ _ _
      | exact ih1 _ _ _ _ _ _
      | exact ih2 _ _ _ _ _ _ _ _ _
      | exact ih3 _ _ _ _ _ _ _ _ _ _ _ _ _
      | exact ih4 _ _ _ _ _ _ _
      | exact LeO.none _
      | refine LeO.ite ?_ ?_
      | refine LeO.bind ?_ (fun _ => ?_)
    · intro y0 y1 y2 y3 y4 y5 y6 y7 y8
      unfold spec_coEnds.l2
      repeat' first
      | (with_reducible exact ih0 _ _ _ _ _ _ _ _)
      | (with_reducible exact ih1 _ _ _ _ _ _)
      | (with_reducible exact ih2 _ _ _ _ _ _ _ _ _)
      | (with_reducible exact ih3 _ _ _ _ _ _ _ _ _ _ _ _ _)
      | (with_reducible exact ih4 _ _ _ _ _ _ _)
      | (with_reducible exact LeO.refl _)
      | (with_reducible exact LeO.none _)
      | (with_reducible refine LeO.ite ?_ ?_)
      | (with_reducible refine LeO.bind ?_ (fun _ => ?_))
      | exact ih0 _ _ _ _ _ _ _ _
      | exact ih1 _ _ _ _ _ _
      | exact ih2 _ _ _ _ _ _ _ _ _
      | exact ih3 _ _ _ _ _ _ _ _ _ _ _ _ _
      | exact ih4 _ _ _ _ _ _ _
      | exact LeO.none _
      | refine LeO.ite ?_ ?_
      | refine LeO.bind ?_ (fun _ => ?_)
    · intro y0 y1 y2 y3 y4 y5 y6 y7 y8 y9 y10 y11 y12
      unfold spec_coEnds.l3
      repeat' first
      | (with_reducible exact ih0 _ _ _ _ _ _ _ _)
      | (with_reducible exact ih1 _ _ _ _ _ _)
      | (with_reducible exact ih2 _ _ _ _ _ _ _ _ _)
      | (with_reducible exact ih3 _ _ _ _ _ _ _ _ _ _ _ _ _)
      | (with_reducible exact ih4 _ _ _ _ _ _ _)
      | (with_reducible exact LeO.refl _)
      | (with_reducible exact LeO.none _)
      | (with_reducible refine LeO.ite ?_ ?_)
      | (with_reducible refine LeO.bind ?_ (fun _ => ?_))
      | exact ih0 _ _ _ _ _ _ _ _
      | exact ih1 _ _ _ _ _ _
      | exact ih2 _ _ _ _ _ _ _ _ _
      | exact ih3 _ _ _ _ _ _ _ _ _ _ _ _ _
      | exact ih4 _ _ _ _ _ _ _
      | exact LeO.none _
      | refine LeO.ite ?_ ?_
      | refine LeO.bind ?_ (fun _ => ?_)
    · intro y0 y1 y2 y3 y4 y5 y6
      unfold spec_coEnds.l4
      repeat' first
      | (with_reducible exact ih0 _ _ _ _ _ _ _ _)
      | (with_reducible exact ih1 _ _ _ _ _ _)
      | (with_reducible exact ih2 _ _ _ _ _ _ _ _ _)
      | (with_reducible exact ih3 _ _ _ _ _ _ _ _ _ _ _ _ _)
      | (with_reducible exact ih4 _ _ _ _ _ _ _)
      | (with_reducible exact LeO.refl _)
      | (with_reducible exact LeO.none _)
      | (with_reducible refine LeO.ite ?_ ?_)
      | (with_reducible refine LeO.bind ?_ (fun _ => ?_))
      | exact ih0 _ _ _ _ _ _ _ _
      | exact ih1 _ _ _ _ _ _
      | exact ih2 _ _ _ _ _ _ _ _ _
      | exact ih3 _ _ _ _ _ _ _ _ _ _ _ _ _
      | exact ih4 _ _ _ _ _ _ _
      | exact LeO.none _
      | refine LeO.ite ?_ ?_
      | refine LeO.bind ?_ (fun _ => ?_)
theorem spec_coEnds.mono : ∀ a0 a1 a2 a3 a4 k, LeO (spec_coEnds.f k a0 a1 a2 a3 a4) (spec_coEnds.f (k + 1) a0 a1 a2 a3 a4) := by
  intro a0 a1 a2 a3 a4 k
  obtain ⟨ih0, ih1, ih2, ih3, ih4⟩ := spec_coEnds.mono_l k
  unfold spec_coEnds.f
  repeat' first
      | (with_reducible exact ih0 _ _ _ _ _ _ _ _)
      | (with_reducible exact ih1 _ _ _ _ _ _)
      | (with_reducible exact ih2 _ _ _ _ _ _ _ _ _)
      | (with_reducible exact ih3 _ _ _ _ _ _ _ _ _ _ _ _ _)
      | (with_reducible exact ih4 _ _ _ _ _ _ _)
      | (with_reducible exact LeO.refl _)
      | (with_reducible exact LeO.none _)
      | (with_reducible refine LeO.ite ?_ ?_)
      | (with_reducible refine LeO.bind ?_ (fun _ => ?_))
      | exact ih0 _ _ _ _ _ _ _ _
      | exact ih1 _ _ _ _ _ _
      | exact ih2 _ _ _ _ _ _ _ _ _
      | exact ih3 _ _ _ _ _ _ _ _ _ _ _ _ _
      | exact ih4 _ _ _ _ _ _ _
      | exact LeO.none _
      | refine LeO.ite ?_ ?_
      | refine LeO.bind ?_ (fun _ => ?_)
set_option maxHeartbeats 8000000 in
set_option maxRecDepth 100000 in
theorem spec_coEnds.calls (k : Nat) (a0 : ByteArray) (a1 : Int) (a2 : Int) (a3 : Int) (a4 : Int) (r : Int) (w : World) (h : spec_coEnds.f k a0 a1 a2 a3 a4 = some r) :
    Calls Try.prog 41 #[.string a0, .int .i64 a1, .int .i64 a2, .int .i64 a3, .int .i64 a4] w fun e w' => e = .returned (.int .i64 r) ∧ Below w.heap.size w w' := by
  have HB := Aside0.mk (Below.refl w.heap.size w)
  have H : (if 0 ≤ a1 then (if (a1 : Int).toNat ≤ 35184372088832 then ((some (List.replicate (a1 : Int).toNat 0 : List Int)).bind fun y146 => (spec_coEnds.l0 k a0 a1 a2 a3 a4 y146 (y146.length : Int) 0)) else (none)) else (none)) = some r := h
  clear h
  by_cases c6 : 0 ≤ a1
  · rw [if_pos c6] at H
    have c6b0 := eq_true c6
    have c6b1 : decide (0 ≤ a1) = true := decide_eq_true c6
    clear c6
    by_cases c7 : (a1 : Int).toNat ≤ 35184372088832
    · rw [if_pos c7] at H
      have c7b0 := eq_true c7
      have c7b1 : decide ((a1 : Int).toNat ≤ 35184372088832) = true := decide_eq_true c7
      clear c7
      obtain ⟨y146, hy146⟩ : ∃ y_ : List Int, y_ = (List.replicate (a1 : Int).toNat 0) := ⟨_, rfl⟩
      replace H : (spec_coEnds.l0 k a0 a1 a2 a3 a4 y146 (y146.length : Int) 0) = some r := by first | (rw [hy146]; with_reducible exact H) | (have H2_ := (Option.bind_some _ _).symm.trans H; rw [hy146]; with_reducible exact H2_) | (have H2_ := (Option.bind_some _ _).symm.trans H; with_reducible exact H2_) | with_reducible exact H | (rw [hy146]; exact H) | exact H
      have Ny146 := Aside0.mk hy146
      clear hy146
      have H' := Aside0.mk H
      clear H
      go_enter Try.func41, Try.ntmps41
      go_wp2_with (first | ((with_reducible refine gate_dst (N := 22) rfl ?_); refine Kd.R_make (Kd.int .i64) _ 3 rfl (N := 22) rfl 52 _ _ rfl a1 rfl rfl Try.underlying52 (.int .i64 0) 8 info3 rfl (by decide) (by omega) 0 (ok := fun _ => True) (okp := fun _ => True) rfl (fun _ hk => hk) trivial (of_decide_eq_true (by first | (with_reducible assumption) | assumption)) (Nat.le_trans (Nat.mul_le_mul_right _ (of_decide_eq_true (by first | (with_reducible assumption) | assumption) : a1.toNat ≤ 35184372088832)) (by omega)) (Below.refl _ _) (Nat.le_refl _) ?_; intro v147 w8 ho9 hb hg_ hnew_; clear hg_ hnew_; (first | rw [← Ny146.out] at ho9 | (simp only [Int.reduceToNat] at ho9; rw [← Ny146.out] at ho9)); have n0_ := Aside0.mk (Kd.R_lower ho9 (below_size (by repeat (first | (with_reducible first | exact HB.out | apply below_alloc | apply pw_below_drewN | apply below_drew1) | exact HB.out)))); have n1_ := Aside0.mk (below_step (by repeat (first | (with_reducible first | exact HB.out | apply below_alloc | apply pw_below_drewN | apply below_drew1) | exact HB.out)) hb); clear HB; have HO148 := n0_; have HB := n1_; clear n0_ n1_; clear hb ho9; obtain ⟨Ao10, co10, eo10⟩ := Kd.R_slice HO148.out; subst eo10))
      go_loopg [25] k (fun kq v25 w' => ∃ (x11_1 : List Int) (x25_1 : Int), v25 = .int .i64 x25_1 ∧ Aside0 (spec_coEnds.l0 kq a0 a1 a2 a3 a4 x11_1 (y146.length : Int) x25_1 = some r) ∧ Aside0 (kq ≤ k) ∧ Aside0 (Kd.R (Kd.int .i64) 3 w' w.heap.size (fun _ => True) (.slice Ao10 y146.length co10) x11_1) ∧ Aside0 (Below w.heap.size w w'))
      case atStart => exact ⟨(y146), (0), (by first | rfl | (simp; done) | (simp [*]; done)), H', ⟨Nat.le_refl _⟩, ⟨by (with_reducible repeat (first | apply Kd.R_alloc | apply Kd.R_drewN | apply Kd.R_drew)); exact HO148.out⟩, ⟨by repeat (first | (with_reducible first | exact HB.out | apply below_alloc | apply pw_below_drewN | apply below_drew1) | exact HB.out)⟩⟩
      case round =>
        clear H'
        try clear p2
        try clear c4
        try clear c6
        try clear c6b0
        try clear c6b1
        try clear c7
        try clear c7b0
        try clear c7b1
        obtain ⟨x11_1, x25_1, rfl, HA, HK1, HO_11, HB⟩ := hrel
        have hl11_1 := (Kd.R_reads' HO_11.out).1
        rw [hl11_1] at HO_11
        (try simp only [hl11_1])
        cases gk with
        | zero => exact absurd HA.out (by simp [spec_coEnds.l0])
        | succ k1 =>
          have H := HA.out
          clear HA
          simp only [spec_coEnds.l0] at H
          by_cases c11 : x25_1 < (y146.length : Int)
          · rw [if_pos c11] at H
            have c11b0 : decide (x25_1 < (y146.length : Int)) = true := decide_eq_true c11
            try (have c11z := c11b0; rw [hl11_1] at c11z)
            try (have c11y := c11b0; rw [hl14_3] at c11y)
            try (have c11x := c11b0; rw [hl14_3, hl14_4] at c11x)
            clear c11
            by_cases c12 : 0 ≤ x25_1
            · rw [if_pos c12] at H
              have c12b0 : decide (0 ≤ x25_1) = true := decide_eq_true c12
              clear c12
              by_cases c13 : x25_1 < (x11_1.length : Int)
              · rw [if_pos c13] at H
                have c13b0 : decide (x25_1 < (x11_1.length : Int)) = true := decide_eq_true c13
                clear c13
                obtain ⟨y149, hy149⟩ : ∃ y_ : List Int, y_ = (x11_1.set (x25_1 : Int).toNat 1) := ⟨_, rfl⟩
                replace H : (if x25_1 = a4 then (spec_coEnds.l0 k1 a0 a1 a2 a3 a4 (y149.set (x25_1 : Int).toNat 0) (y146.length : Int) (wrap64 (x25_1 + 1))) else (spec_coEnds.l0 k1 a0 a1 a2 a3 a4 y149 (y146.length : Int) (wrap64 (x25_1 + 1)))) = some r := by first | (rw [hy149]; with_reducible exact H) | (have H2_ := (Option.bind_some _ _).symm.trans H; rw [hy149]; with_reducible exact H2_) | (have H2_ := (Option.bind_some _ _).symm.trans H; with_reducible exact H2_) | with_reducible exact H | (rw [hy149]; exact H) | exact H
                have Ny149 := Aside0.mk hy149
                clear hy149
                by_cases c15 : x25_1 = a4
                · rw [if_pos c15] at H
                  have c15b0 : (x25_1 == a4) = true := beq_iff_eq.mpr c15
                  have c15b1 : (x25_1 != a4) = false := bne_eq_false_iff_eq.mpr c15
                  clear c15
                  obtain ⟨y150, hy150⟩ : ∃ y_ : List Int, y_ = (y149.set (x25_1 : Int).toNat 0) := ⟨_, rfl⟩
                  replace H : (spec_coEnds.l0 k1 a0 a1 a2 a3 a4 y150 (y146.length : Int) (wrap64 (x25_1 + 1))) = some r := by first | (rw [hy150]; with_reducible exact H) | (have H2_ := (Option.bind_some _ _).symm.trans H; rw [hy150]; with_reducible exact H2_) | (have H2_ := (Option.bind_some _ _).symm.trans H; with_reducible exact H2_) | with_reducible exact H | (rw [hy150]; exact H) | exact H
                  have Ny150 := Aside0.mk hy150
                  clear hy150
                  have H' := Aside0.mk H
                  clear H
                  have p14 : 0 ≤ (x25_1 : Int) := of_decide_eq_true (by first | (with_reducible assumption) | assumption)
                  have q14 : (x25_1 : Int) < ((x11_1.length : Int) : Int) := of_decide_eq_true (by first | (with_reducible assumption) | assumption)
                  obtain ⟨go14, co14, eo14, gb14, gl14, cl14, HG14⟩ := Kd.R_form HO_11.out (by omega)
                  (first | cases eo14 | (injection eo14 with ea_ en_ ec_; (first | subst ea_ | (injection ea_ with ea_; subst ea_)); subst ec_; clear en_))
                  have GB14 := Aside0.mk gb14
                  have GG14 := Aside0.mk HG14
                  clear gb14 gl14 HG14
                  obtain ⟨hx14_0, hf14_0⟩ := Kd.R_celln 0 HO_11.out (x25_1 : Int) p14 q14
                  replace p14 := eq_true p14
                  replace q14 := eq_true q14
                  have HP17 := Kd.R_putg HO_11.out (x25_1 : Int) 1
                  go_wp2_with (first | ((with_reducible refine gate_store (t := 3) (p := 30) rfl ?_); refine store_event (t := 3) (p := 30) (v := ?vo_w18) (w1 := (wr.setCell ⟨go14, (x25_1 : Int).toNat, none⟩ (.int .i64 1))) ?hg ?ho ?hn ?hr ?_; (case ho => rfl); (case hg => rfl); (case hn => rfl); (case hr => first | (go_simp; done) | (go_simp; rfl)); intro w18 hw; have hg : wr.grownBy w18 (some go14) := (by rw [hw]; exact HP17.2); have hp_ : Kd.R (Kd.int .i64) 3 w18 w.heap.size (fun _ => True) (.slice (some ⟨go14, 0, none⟩) x11_1.length co10) y149 := (by rw [hw, Ny149.out]; exact HP17.1); clear HP17; have n0_ := Aside0.mk (hp_); have n1_ := Aside0.mk ((by rw [hw]; exact below_set (HB.out) GB14.out : Below w.heap.size w w18)); clear HO_11; clear HB; have HO_11 := n0_; have HB := n1_; clear n0_ n1_; clear hg hw hp_; have p16 : 0 ≤ (x25_1 : Int) := of_decide_eq_true (by first | (with_reducible assumption) | assumption); have q16 : (x25_1 : Int) < ((x11_1.length : Int) : Int) := of_decide_eq_true (by first | (with_reducible assumption) | assumption); obtain ⟨hx16_0, hf16_0⟩ := Kd.R_celln 0 HO_11.out (x25_1 : Int) p16 q16; replace p16 := eq_true p16; replace q16 := eq_true q16; obtain ⟨hy19_, hz19_⟩ := Kd.R_celln 0 HO_11.out (x25_1 : Int) (of_decide_eq_true (by first | (with_reducible assumption) | assumption)) (of_decide_eq_true (by first | (with_reducible assumption) | assumption)); have HP19 := Kd.R_putg HO_11.out (x25_1 : Int) 0) | ((with_reducible refine gate_store (t := 3) (p := 36) rfl ?_); refine store_event (t := 3) (p := 36) (v := ?vo_w20) (w1 := (w18.setCell ⟨go14, (x25_1 : Int).toNat, none⟩ (.int .i64 0))) ?hg ?ho ?hn ?hr ?_; (case ho => rfl); (case hg => rfl); (case hn => rfl); (case hr => first | (go_simp; done) | (go_simp; rfl)); intro w20 hw; have hg : w18.grownBy w20 (some go14) := (by rw [hw]; exact HP19.2); have hp_ : Kd.R (Kd.int .i64) 3 w20 w.heap.size (fun _ => True) (.slice (some ⟨go14, 0, none⟩) x11_1.length co10) y150 := (by rw [hw, Ny150.out]; exact HP19.1); clear HP19; have n0_ := Aside0.mk (hp_); have n1_ := Aside0.mk ((by rw [hw]; exact below_set (HB.out) GB14.out : Below w.heap.size w w20)); clear HO_11; clear HB; have HO_11 := n0_; have HB := n1_; clear n0_ n1_; clear hg hw hp_))
                  (try simp only [← hl11_1])
                  go_roundg k1
                  case measure => have := HK1.out; omega
                  case rel => exact ⟨(y150), (wrap64 (x25_1 + 1)), (by first | rfl | (simp; done) | (simp [*]; done)), H', ⟨by have := HK1.out; omega⟩, ⟨by (try simp only [hl11_1]); (with_reducible repeat (first | apply Kd.R_alloc | apply Kd.R_drewN | apply Kd.R_drew)); exact HO_11.out⟩, ⟨by repeat (first | (with_reducible first | exact HB.out | apply below_alloc | apply pw_below_drewN | apply below_drew1) | exact HB.out)⟩⟩
                · rw [if_neg c15] at H
                  have c15b0 : (x25_1 == a4) = false := beq_eq_false_iff_ne.mpr c15
                  have c15b1 : (x25_1 != a4) = true := bne_iff_ne.mpr c15
                  have H' := Aside0.mk H
                  clear H
                  have p14 : 0 ≤ (x25_1 : Int) := of_decide_eq_true (by first | (with_reducible assumption) | assumption)
                  have q14 : (x25_1 : Int) < ((x11_1.length : Int) : Int) := of_decide_eq_true (by first | (with_reducible assumption) | assumption)
                  obtain ⟨go14, co14, eo14, gb14, gl14, cl14, HG14⟩ := Kd.R_form HO_11.out (by omega)
                  (first | cases eo14 | (injection eo14 with ea_ en_ ec_; (first | subst ea_ | (injection ea_ with ea_; subst ea_)); subst ec_; clear en_))
                  have GB14 := Aside0.mk gb14
                  have GG14 := Aside0.mk HG14
                  clear gb14 gl14 HG14
                  obtain ⟨hx14_0, hf14_0⟩ := Kd.R_celln 0 HO_11.out (x25_1 : Int) p14 q14
                  replace p14 := eq_true p14
                  replace q14 := eq_true q14
                  have HP21 := Kd.R_putg HO_11.out (x25_1 : Int) 1
                  go_wp2_with (first | ((with_reducible refine gate_store (t := 3) (p := 30) rfl ?_); refine store_event (t := 3) (p := 30) (v := ?vo_w22) (w1 := (wr.setCell ⟨go14, (x25_1 : Int).toNat, none⟩ (.int .i64 1))) ?hg ?ho ?hn ?hr ?_; (case ho => rfl); (case hg => rfl); (case hn => rfl); (case hr => first | (go_simp; done) | (go_simp; rfl)); intro w22 hw; have hg : wr.grownBy w22 (some go14) := (by rw [hw]; exact HP21.2); have hp_ : Kd.R (Kd.int .i64) 3 w22 w.heap.size (fun _ => True) (.slice (some ⟨go14, 0, none⟩) x11_1.length co10) y149 := (by rw [hw, Ny149.out]; exact HP21.1); clear HP21; have n0_ := Aside0.mk (hp_); have n1_ := Aside0.mk ((by rw [hw]; exact below_set (HB.out) GB14.out : Below w.heap.size w w22)); clear HO_11; clear HB; have HO_11 := n0_; have HB := n1_; clear n0_ n1_; clear hg hw hp_))
                  (try simp only [← hl11_1])
                  go_roundg k1
                  case measure => have := HK1.out; omega
                  case rel => exact ⟨(y149), (wrap64 (x25_1 + 1)), (by first | rfl | (simp; done) | (simp [*]; done)), H', ⟨by have := HK1.out; omega⟩, ⟨by (try simp only [hl11_1]); (with_reducible repeat (first | apply Kd.R_alloc | apply Kd.R_drewN | apply Kd.R_drew)); exact HO_11.out⟩, ⟨by repeat (first | (with_reducible first | exact HB.out | apply below_alloc | apply pw_below_drewN | apply below_drew1) | exact HB.out)⟩⟩
              · rw [if_neg c13] at H
                exact absurd H (by simp)
            · rw [if_neg c12] at H
              exact absurd H (by simp)
          · rw [if_neg c11] at H
            have c11b0 : decide (x25_1 < (y146.length : Int)) = false := decide_eq_false c11
            try (have c11z := c11b0; rw [hl11_1] at c11z)
            try (have c11y := c11b0; rw [hl14_3] at c11y)
            try (have c11x := c11b0; rw [hl14_3, hl14_4] at c11x)
            clear c11
            by_cases c23 : a2 = (a0.size : Int)
            · rw [if_pos c23] at H
              have c23b0 : (a2 == (a0.size : Int)) = true := beq_iff_eq.mpr c23
              have c23b1 : (a2 != (a0.size : Int)) = false := bne_eq_false_iff_eq.mpr c23
              clear c23
              by_cases c24 : a3 < 0
              · rw [if_pos c24] at H
                have c24b0 : decide (a3 < 0) = true := decide_eq_true c24
                clear c24
                obtain rfl := Option.some.inj H
                go_wp2
                go_ret
                exact ⟨by first | rfl | (simp [errW_none, errW_some] <;> rfl) | (simp [*, errW_none, errW_some] <;> rfl), by repeat (first | (with_reducible first | exact HB.out | apply below_alloc | apply pw_below_drewN | apply below_drew1) | exact HB.out)⟩
              · rw [if_neg c24] at H
                have c24b0 : decide (a3 < 0) = false := decide_eq_false c24
                clear c24
                by_cases c25 : 0 ≤ a3
                · rw [if_pos c25] at H
                  have c25b0 : decide (0 ≤ a3) = true := decide_eq_true c25
                  clear c25
                  by_cases c26 : a3 < (x11_1.length : Int)
                  · rw [if_pos c26] at H
                    have c26b0 : decide (a3 < (x11_1.length : Int)) = true := decide_eq_true c26
                    clear c26
                    obtain rfl := Option.some.inj H
                    have p151 : 0 ≤ (a3 : Int) := of_decide_eq_true (by first | (with_reducible assumption) | assumption)
                    have q151 : a3 < (x11_1.length : Int) := of_decide_eq_true (by first | (with_reducible assumption) | assumption)
                    obtain ⟨ad151, e151, hx151_0⟩ := Kd.at_int (Kd.R_reads' HO_11.out).2.2 a3 p151 q151
                    cases e151
                    replace p151 := eq_true p151
                    replace q151 := eq_true q151
                    go_wp2
                    go_ret
                    exact ⟨by first | rfl | (simp [errW_none, errW_some] <;> rfl) | (simp [*, errW_none, errW_some] <;> rfl), by repeat (first | (with_reducible first | exact HB.out | apply below_alloc | apply pw_below_drewN | apply below_drew1) | exact HB.out)⟩
                  · rw [if_neg c26] at H
                    exact absurd H (by simp)
                · rw [if_neg c25] at H
                  exact absurd H (by simp)
            · rw [if_neg c23] at H
              have c23b0 : (a2 == (a0.size : Int)) = false := beq_eq_false_iff_ne.mpr c23
              have c23b1 : (a2 != (a0.size : Int)) = true := bne_iff_ne.mpr c23
              have H' := Aside0.mk H
              clear H
              go_wp2
              go_loopg [11, 13] k1 (fun kq v11 v13 w' => ∃ (x11_2 : List Int) (x13_2 : Int), v13 = .int .i64 x13_2 ∧ Aside0 (spec_coEnds.l1 kq a0 a1 a2 a3 x11_2 x13_2 = some r) ∧ Aside0 (kq ≤ k1) ∧ Aside0 (Kd.R (Kd.int .i64) 3 w' w.heap.size (fun _ => True) v11 x11_2) ∧ Aside0 (Below w.heap.size w w'))
              case atStart => exact ⟨(x11_1), (wrap64 ((a0.size : Int) - 1)), (by first | rfl | (simp; done) | (simp [*]; done)), H', ⟨Nat.le_refl _⟩, ⟨by (try simp only [hl11_1]); (with_reducible repeat (first | apply Kd.R_alloc | apply Kd.R_drewN | apply Kd.R_drew)); exact HO_11.out⟩, ⟨by repeat (first | (with_reducible first | exact HB.out | apply below_alloc | apply pw_below_drewN | apply below_drew1) | exact HB.out)⟩⟩
              case round =>
                clear H'
                try clear c1
                try clear p1
                try clear q1
                try clear hx1
                try clear c2
                try clear p2
                try clear c4
                try clear c6
                try clear c6b0
                try clear c6b1
                try clear p6
                try clear c7
                try clear c7b0
                try clear c7b1
                try clear c11
                try clear c11b0
                try clear c12
                try clear c12b0
                try clear c13
                try clear c13b0
                try clear p14
                try clear q14
                try clear hx14
                try clear hf14
                try clear c15
                try clear c15b0
                try clear c15b1
                try clear p15
                try clear q15
                try clear hx15
                try clear p16
                try clear q16
                try clear hx16
                try clear hf16
                try clear c23
                try clear c23b0
                try clear c23b1
                try clear c24
                try clear c24b0
                try clear c25
                try clear c25b0
                try clear c26
                try clear c26b0
                try clear hx14_0
                try clear hx151_0
                try clear hx16_0
                try clear p14
                try clear p151
                try clear p16
                try clear p2
                try clear q14
                try clear q151
                try clear q16
                obtain ⟨x11_2, x13_2, rfl, HA, HK2, HO_11, HB⟩ := hrel
                cases gk with
                | zero => exact absurd HA.out (by simp [spec_coEnds.l1])
                | succ k2 =>
                  have H := HA.out
                  clear HA
                  simp only [spec_coEnds.l1] at H
                  by_cases c27 : x13_2 > a2
                  · rw [if_pos c27] at H
                    have c27b0 : decide (a2 < x13_2) = true := decide_eq_true c27
                    clear c27
                    by_cases c28 : 0 ≤ a1
                    · rw [if_pos c28] at H
                      have c28b0 := eq_true c28
                      have c28b1 : decide (0 ≤ a1) = true := decide_eq_true c28
                      clear c28
                      by_cases c29 : (a1 : Int).toNat ≤ 35184372088832
                      · rw [if_pos c29] at H
                        have c29b0 := eq_true c29
                        have c29b1 : decide ((a1 : Int).toNat ≤ 35184372088832) = true := decide_eq_true c29
                        clear c29
                        obtain ⟨y152, hy152⟩ : ∃ y_ : List Int, y_ = (List.replicate (a1 : Int).toNat 0) := ⟨_, rfl⟩
                        replace H : (spec_coEnds.l2 k2 a0 a1 a2 a3 x11_2 x13_2 y152 (y152.length : Int) 0) = some r := by first | (rw [hy152]; with_reducible exact H) | (have H2_ := (Option.bind_some _ _).symm.trans H; rw [hy152]; with_reducible exact H2_) | (have H2_ := (Option.bind_some _ _).symm.trans H; with_reducible exact H2_) | with_reducible exact H | (rw [hy152]; exact H) | exact H
                        have Ny152 := Aside0.mk hy152
                        clear hy152
                        have H' := Aside0.mk H
                        clear H
                        go_wp2_with (first | ((with_reducible refine gate_dst (N := 57) rfl ?_); refine Kd.R_make (Kd.int .i64) _ 3 rfl (N := 57) rfl 52 _ _ rfl a1 rfl rfl Try.underlying52 (.int .i64 0) 8 info3 rfl (by decide) (by omega) 0 (ok := fun _ => True) (okp := fun _ => True) rfl (fun _ hk => hk) trivial (of_decide_eq_true (by first | (with_reducible assumption) | assumption)) (Nat.le_trans (Nat.mul_le_mul_right _ (of_decide_eq_true (by first | (with_reducible assumption) | assumption) : a1.toNat ≤ 35184372088832)) (by omega)) (Below.refl _ _) (Nat.le_refl _) ?_; intro v153 w30 ho31 hb hg_ hnew_; clear hg_ hnew_; (first | rw [← Ny152.out] at ho31 | (simp only [Int.reduceToNat] at ho31; rw [← Ny152.out] at ho31)); have n0_ := Aside0.mk (Kd.R_elder' (by (with_reducible repeat (first | apply Kd.R_alloc | apply Kd.R_drewN | apply Kd.R_drew)); exact HO_11.out) (Kd.R_base ho31) hb); have n1_ := Aside0.mk (Kd.R_lower (Kd.R_new' ho31 (Kd.R_lt (by (with_reducible repeat (first | apply Kd.R_alloc | apply Kd.R_drewN | apply Kd.R_drew)); exact HO_11.out))) (below_size (by repeat (first | (with_reducible first | exact HB.out | apply below_alloc | apply pw_below_drewN | apply below_drew1) | exact HB.out)))); have n2_ := Aside0.mk (below_step (by repeat (first | (with_reducible first | exact HB.out | apply below_alloc | apply pw_below_drewN | apply below_drew1) | exact HB.out)) hb); clear HO_11; clear HB; have HO_11 := n0_; have HO154 := n1_; have HB := n2_; clear n0_ n1_ n2_; clear hb ho31; obtain ⟨Ao32, co32, eo32⟩ := Kd.R_slice HO154.out; subst eo32))
                        go_loopg [60] k2 (fun kq v60 w' => ∃ (x14_3 : List Int) (x60_3 : Int), v60 = .int .i64 x60_3 ∧ Aside0 (spec_coEnds.l2 kq a0 a1 a2 a3 x11_2 x13_2 x14_3 (y152.length : Int) x60_3 = some r) ∧ Aside0 (kq ≤ k2) ∧ Aside0 (Kd.R (Kd.int .i64) 3 w' w.heap.size (fun k_ => some k_ ≠ ((.slice Ao32 y152.length co32) : Value).ownBlock) u11 x11_2) ∧ Aside0 (Kd.R (Kd.int .i64) 3 w' w.heap.size (fun k_ => some k_ ≠ (u11 : Value).ownBlock) (.slice Ao32 y152.length co32) x14_3) ∧ Aside0 (Below w.heap.size w w'))
                        case atStart => exact ⟨(y152), (0), (by first | rfl | (simp; done) | (simp [*]; done)), H', ⟨Nat.le_refl _⟩, ⟨by (try simp only [hl11_1]); (with_reducible repeat (first | apply Kd.R_alloc | apply Kd.R_drewN | apply Kd.R_drew)); exact Kd.R_mono HO_11.out (fun _ hk => hk.2)⟩, ⟨by (try simp only [hl11_1]); (with_reducible repeat (first | apply Kd.R_alloc | apply Kd.R_drewN | apply Kd.R_drew)); exact Kd.R_mono HO154.out (fun _ hk => hk.2)⟩, ⟨by repeat (first | (with_reducible first | exact HB.out | apply below_alloc | apply pw_below_drewN | apply below_drew1) | exact HB.out)⟩⟩
                        case round =>
                          clear H'
                          try clear c1
                          try clear p1
                          try clear q1
                          try clear hx1
                          try clear c2
                          try clear p2
                          try clear c4
                          try clear c6
                          try clear c6b0
                          try clear c6b1
                          try clear p6
                          try clear c7
                          try clear c7b0
                          try clear c7b1
                          try clear c11
                          try clear c11b0
                          try clear c12
                          try clear c12b0
                          try clear c13
                          try clear c13b0
                          try clear p14
                          try clear q14
                          try clear hx14
                          try clear hf14
                          try clear c15
                          try clear c15b0
                          try clear c15b1
                          try clear p15
                          try clear q15
                          try clear hx15
                          try clear p16
                          try clear q16
                          try clear hx16
                          try clear hf16
                          try clear c23
                          try clear c23b0
                          try clear c23b1
                          try clear c24
                          try clear c24b0
                          try clear c25
                          try clear c25b0
                          try clear c26
                          try clear c26b0
                          try clear c27
                          try clear c27b0
                          try clear c28
                          try clear c28b0
                          try clear c28b1
                          try clear c29
                          try clear c29b0
                          try clear c29b1
                          try clear hx14_0
                          try clear hx151_0
                          try clear hx16_0
                          try clear p1
                          try clear p14
                          try clear p15
                          try clear p151
                          try clear p16
                          try clear p2
                          try clear p6
                          try clear q1
                          try clear q14
                          try clear q15
                          try clear q151
                          try clear q16
                          obtain ⟨x14_3, x60_3, rfl, HA, HK3, HO_11, HO_14, HB⟩ := hrel
                          have hl14_3 := (Kd.R_reads' HO_14.out).1
                          rw [hl14_3] at HO_14
                          (try simp only [hl14_3])
                          (try simp only [hl14_3] at HO_11)
                          cases gk with
                          | zero => exact absurd HA.out (by simp [spec_coEnds.l2])
                          | succ k3 =>
                            have H := HA.out
                            clear HA
                            simp only [spec_coEnds.l2] at H
                            by_cases c33 : x60_3 < (y152.length : Int)
                            · rw [if_pos c33] at H
                              have c33b0 : decide (x60_3 < (y152.length : Int)) = true := decide_eq_true c33
                              try (have c33z := c33b0; rw [hl11_1] at c33z)
                              try (have c33y := c33b0; rw [hl14_3] at c33y)
                              try (have c33x := c33b0; rw [hl14_3, hl14_4] at c33x)
                              clear c33
                              have H' := Aside0.mk H
                              clear H
                              obtain ⟨Ao34, co34, eo34⟩ := Kd.R_slice HO_11.out
                              subst eo34
                              go_wp2
                              go_loopg [65] k3 (fun kq v65 w' => ∃ (x14_4 : List Int) (x65_4 : Int), v65 = .int .i64 x65_4 ∧ Aside0 (spec_coEnds.l3 kq a0 a1 a2 a3 x11_2 x13_2 x14_4 x60_3 (y152.length : Int) x60_3 x11_2 (x11_2.length : Int) x65_4 = some r) ∧ Aside0 (kq ≤ k3) ∧ Aside0 (Kd.R (Kd.int .i64) 3 w' w.heap.size (fun k_ => some k_ ≠ ((.slice Ao32 x14_3.length co32) : Value).ownBlock) (.slice Ao34 x11_2.length co34) x11_2) ∧ Aside0 (Kd.R (Kd.int .i64) 3 w' w.heap.size (fun k_ => some k_ ≠ ((.slice Ao34 x11_2.length co34) : Value).ownBlock ∧ some k_ ≠ ((.slice Ao34 x11_2.length co34) : Value).ownBlock) (.slice Ao32 x14_3.length co32) x14_4) ∧ Aside0 (Kd.R (Kd.int .i64) 3 w' w.heap.size (fun k_ => some k_ ≠ ((.slice Ao32 x14_3.length co32) : Value).ownBlock) (.slice Ao34 x11_2.length co34) x11_2) ∧ Aside0 (Below w.heap.size w w'))
                              case atStart => exact ⟨(x14_3), (0), (by first | rfl | (simp; done) | (simp [*]; done)), H', ⟨Nat.le_refl _⟩, ⟨by (try simp only [hl11_1]); (try simp only [hl14_3]); (with_reducible repeat (first | apply Kd.R_alloc | apply Kd.R_drewN | apply Kd.R_drew)); exact HO_11.out⟩, ⟨by (try simp only [hl11_1]); (try simp only [hl14_3]); (with_reducible repeat (first | apply Kd.R_alloc | apply Kd.R_drewN | apply Kd.R_drew)); exact Kd.R_mono HO_14.out (fun _ hk => ⟨hk, hk⟩)⟩, ⟨by (try simp only [hl11_1]); (try simp only [hl14_3]); (with_reducible repeat (first | apply Kd.R_alloc | apply Kd.R_drewN | apply Kd.R_drew)); exact HO_11.out⟩, ⟨by repeat (first | (with_reducible first | exact HB.out | apply below_alloc | apply pw_below_drewN | apply below_drew1) | exact HB.out)⟩⟩
                              case round =>
                                clear H'
                                try clear c1
                                try clear p1
                                try clear q1
                                try clear hx1
                                try clear c2
                                try clear p2
                                try clear c3
                                try clear c4
                                try clear c6
                                try clear c6b0
                                try clear c6b1
                                try clear p6
                                try clear c7
                                try clear c7b0
                                try clear c7b1
                                try clear c11
                                try clear c11b0
                                try clear c12
                                try clear c12b0
                                try clear c13
                                try clear c13b0
                                try clear p14
                                try clear q14
                                try clear hx14
                                try clear hf14
                                try clear c15
                                try clear c15b0
                                try clear c15b1
                                try clear p15
                                try clear q15
                                try clear hx15
                                try clear p16
                                try clear q16
                                try clear hx16
                                try clear hf16
                                try clear c23
                                try clear c23b0
                                try clear c23b1
                                try clear c24
                                try clear c24b0
                                try clear c25
                                try clear c25b0
                                try clear c26
                                try clear c26b0
                                try clear c27
                                try clear c27b0
                                try clear c28
                                try clear c28b0
                                try clear c28b1
                                try clear c29
                                try clear c29b0
                                try clear c29b1
                                try clear c33
                                try clear c33b0
                                try clear hx14_0
                                try clear hx151_0
                                try clear hx16_0
                                try clear p1
                                try clear p14
                                try clear p15
                                try clear p151
                                try clear p16
                                try clear p2
                                try clear p6
                                try clear q1
                                try clear q14
                                try clear q15
                                try clear q151
                                try clear q16
                                obtain ⟨x14_4, x65_4, rfl, HA, HK4, HO_11, HO_14, HO_63, HB⟩ := hrel
                                have hl14_4 := (Kd.R_reads' HO_14.out).1
                                rw [hl14_4] at HO_14
                                (try simp only [hl14_4])
                                (try simp only [hl14_4] at HO_11)
                                (try simp only [hl14_4] at HO_63)
                                cases gk with
                                | zero => exact absurd HA.out (by simp [spec_coEnds.l3])
                                | succ k4 =>
                                  have H := HA.out
                                  clear HA
                                  simp only [spec_coEnds.l3] at H
                                  by_cases c35 : x65_4 < (x11_2.length : Int)
                                  · rw [if_pos c35] at H
                                    have c35b0 : decide (x65_4 < (x11_2.length : Int)) = true := decide_eq_true c35
                                    clear c35
                                    by_cases c36 : 0 ≤ x65_4
                                    · rw [if_pos c36] at H
                                      have c36b0 : decide (0 ≤ x65_4) = true := decide_eq_true c36
                                      clear c36
                                      by_cases c37 : x65_4 < (x11_2.length : Int)
                                      · rw [if_pos c37] at H
                                        have c37b0 : decide (x65_4 < (x11_2.length : Int)) = true := decide_eq_true c37
                                        clear c37
                                        by_cases c38 : x60_3 = x65_4
                                        · rw [if_pos c38] at H
                                          have c38b0 : (x60_3 == x65_4) = true := beq_iff_eq.mpr c38
                                          have c38b1 : (x60_3 != x65_4) = false := bne_eq_false_iff_eq.mpr c38
                                          clear c38
                                          have H' := Aside0.mk H
                                          clear H
                                          have p155 : 0 ≤ (x65_4 : Int) := of_decide_eq_true (by first | (with_reducible assumption) | assumption)
                                          have q155 : x65_4 < (x11_2.length : Int) := of_decide_eq_true (by first | (with_reducible assumption) | assumption)
                                          obtain ⟨ad155, e155, hx155_0⟩ := Kd.at_int (Kd.R_reads' HO_63.out).2.2 x65_4 p155 q155
                                          cases e155
                                          replace p155 := eq_true p155
                                          replace q155 := eq_true q155
                                          go_wp2
                                          (try simp only [← hl14_4])
                                          go_roundg k4
                                          case measure => have := HK1.out; have := HK2.out; have := HK3.out; have := HK4.out; omega
                                          case rel => exact ⟨(x14_4), (wrap64 (x65_4 + 1)), (by first | rfl | (simp; done) | (simp [*]; done)), H', ⟨by have := HK1.out; have := HK2.out; have := HK3.out; have := HK4.out; omega⟩, ⟨by (try simp only [hl11_1]); (try simp only [hl14_3]); (try simp only [hl14_4]); (with_reducible repeat (first | apply Kd.R_alloc | apply Kd.R_drewN | apply Kd.R_drew)); exact HO_11.out⟩, ⟨by (try simp only [hl11_1]); (try simp only [hl14_3]); (try simp only [hl14_4]); (with_reducible repeat (first | apply Kd.R_alloc | apply Kd.R_drewN | apply Kd.R_drew)); exact HO_14.out⟩, ⟨by (try simp only [hl11_1]); (try simp only [hl14_3]); (try simp only [hl14_4]); (with_reducible repeat (first | apply Kd.R_alloc | apply Kd.R_drewN | apply Kd.R_drew)); exact HO_63.out⟩, ⟨by repeat (first | (with_reducible first | exact HB.out | apply below_alloc | apply pw_below_drewN | apply below_drew1) | exact HB.out)⟩⟩
                                        · rw [if_neg c38] at H
                                          have c38b0 : (x60_3 == x65_4) = false := beq_eq_false_iff_ne.mpr c38
                                          have c38b1 : (x60_3 != x65_4) = true := bne_iff_ne.mpr c38
                                          replace H := Option.bind_eq_some_iff.mp H
                                          obtain ⟨t156, A390, H⟩ := H
                                          replace H : (if t156 = true then (if 0 ≤ x60_3 then (if x60_3 < (x14_4.length : Int) then (spec_coEnds.l3 k4 a0 a1 a2 a3 x11_2 x13_2 (x14_4.set (x60_3 : Int).toNat (wrap64 ((rd x14_4 x60_3) + (rd x11_2 x65_4)))) x60_3 (y152.length : Int) x60_3 x11_2 (x11_2.length : Int) (wrap64 (x65_4 + 1))) else (none)) else (none)) else (spec_coEnds.l3 k4 a0 a1 a2 a3 x11_2 x13_2 x14_4 x60_3 (y152.length : Int) x60_3 x11_2 (x11_2.length : Int) (wrap64 (x65_4 + 1)))) = some r := H
                                          have A39 := Aside0.mk A390
                                          clear A390
                                          by_cases c40 : t156 = true
                                          · subst c40
                                            have H1 : (if 0 ≤ x60_3 then (if x60_3 < (x14_4.length : Int) then (spec_coEnds.l3 k4 a0 a1 a2 a3 x11_2 x13_2 (x14_4.set (x60_3 : Int).toNat (wrap64 ((rd x14_4 x60_3) + (rd x11_2 x65_4)))) x60_3 (y152.length : Int) x60_3 x11_2 (x11_2.length : Int) (wrap64 (x65_4 + 1))) else (none)) else (none)) = some r := by rw [if_pos rfl] at H; exact H
                                            clear H
                                            have H := H1
                                            clear H1
                                            by_cases c41 : 0 ≤ x60_3
                                            · rw [if_pos c41] at H
                                              have c41b0 : decide (0 ≤ x60_3) = true := decide_eq_true c41
                                              clear c41
                                              by_cases c42 : x60_3 < (x14_4.length : Int)
                                              · rw [if_pos c42] at H
                                                have c42b0 : decide (x60_3 < (x14_4.length : Int)) = true := decide_eq_true c42
                                                clear c42
                                                obtain ⟨y158, hy158⟩ : ∃ y_ : List Int, y_ = (x14_4.set (x60_3 : Int).toNat (wrap64 ((rd x14_4 x60_3) + (rd x11_2 x65_4)))) := ⟨_, rfl⟩
                                                replace H : (spec_coEnds.l3 k4 a0 a1 a2 a3 x11_2 x13_2 y158 x60_3 (y152.length : Int) x60_3 x11_2 (x11_2.length : Int) (wrap64 (x65_4 + 1))) = some r := by first | (rw [hy158]; with_reducible exact H) | (have H2_ := (Option.bind_some _ _).symm.trans H; rw [hy158]; with_reducible exact H2_) | (have H2_ := (Option.bind_some _ _).symm.trans H; with_reducible exact H2_) | with_reducible exact H | (rw [hy158]; exact H) | exact H
                                                have Ny158 := Aside0.mk hy158
                                                clear hy158
                                                have H' := Aside0.mk H
                                                clear H
                                                have p155 : 0 ≤ (x65_4 : Int) := of_decide_eq_true (by first | (with_reducible assumption) | assumption)
                                                have q155 : x65_4 < (x11_2.length : Int) := of_decide_eq_true (by first | (with_reducible assumption) | assumption)
                                                obtain ⟨ad155, e155, hx155_0⟩ := Kd.at_int (Kd.R_reads' HO_63.out).2.2 x65_4 p155 q155
                                                cases e155
                                                replace p155 := eq_true p155
                                                replace q155 := eq_true q155
                                                go_wp2_with (first | (go_at_call 42; (with_reducible refine (spec_coAllows.calls a0 x13_2 x65_4 true _ A39.out).mono ?_); rintro e w' ⟨rfl, ⟨nd, rfl⟩⟩; (try (rw [drewN_self wr]; generalize hq_ : World.drewN wr _ = wr; have n0_ : Aside0 (Kd.R (Kd.int .i64) 3 wr w.heap.size (fun k_ => some k_ ≠ (.slice Ao32 x14_4.length co32 : Value).ownBlock) (.slice (some ad155) x11_2.length co34) x11_2) := ⟨by rw [← hq_]; exact (by (with_reducible repeat (first | apply Kd.R_alloc | apply Kd.R_drewN | apply Kd.R_drew)); exact HO_11.out)⟩; have n1_ : Aside0 (Kd.R (Kd.int .i64) 3 wr w.heap.size (fun k_ => some k_ ≠ (.slice (some ad155) x11_2.length co34 : Value).ownBlock ∧ some k_ ≠ (.slice (some ad155) x11_2.length co34 : Value).ownBlock) (.slice Ao32 x14_4.length co32) x14_4) := ⟨by rw [← hq_]; exact (by (with_reducible repeat (first | apply Kd.R_alloc | apply Kd.R_drewN | apply Kd.R_drew)); exact HO_14.out)⟩; have n2_ : Aside0 (Kd.R (Kd.int .i64) 3 wr w.heap.size (fun k_ => some k_ ≠ (.slice Ao32 x14_4.length co32 : Value).ownBlock) (.slice (some ad155) x11_2.length co34) x11_2) := ⟨by rw [← hq_]; exact (by (with_reducible repeat (first | apply Kd.R_alloc | apply Kd.R_drewN | apply Kd.R_drew)); exact HO_63.out)⟩; have n3_ : Aside0 (Below w.heap.size w wr) := ⟨by rw [← hq_]; exact (by repeat (first | (with_reducible first | exact HB.out | apply below_alloc | apply pw_below_drewN | apply below_drew1) | exact HB.out))⟩; clear HO_11 HO_14 HO_63 HB hq_; have HO_11 := n0_; have HO_14 := n1_; have HO_63 := n2_; have HB := n3_; clear n0_ n1_ n2_ n3_)); have p157 : 0 ≤ (x60_3 : Int) := of_decide_eq_true (by first | (with_reducible assumption) | assumption); have q157 : x60_3 < (x14_4.length : Int) := of_decide_eq_true (by first | (with_reducible assumption) | assumption); obtain ⟨ad157, e157, hx157_0⟩ := Kd.at_int (Kd.R_reads' HO_14.out).2.2 x60_3 p157 q157; cases e157; replace p157 := eq_true p157; replace q157 := eq_true q157; have p43 : 0 ≤ (x60_3 : Int) := of_decide_eq_true (by first | (with_reducible assumption) | assumption); have q43 : (x60_3 : Int) < ((x14_4.length : Int) : Int) := of_decide_eq_true (by first | (with_reducible assumption) | assumption); obtain ⟨go43, co43, eo43, gb43, gl43, cl43, HG43⟩ := Kd.R_form HO_14.out (by omega); (first | cases eo43 | (injection eo43 with ea_ en_ ec_; (first | subst ea_ | (injection ea_ with ea_; subst ea_)); subst ec_; clear en_)); have GB43 := Aside0.mk gb43; have GG43 := Aside0.mk HG43; clear gb43 gl43 HG43; (first | simp only [add_plain] at hx157_0 | skip); obtain ⟨hx43_0, hf43_0⟩ := Kd.R_celln 0 HO_14.out (x60_3 : Int) p43 q43; replace p43 := eq_true p43; replace q43 := eq_true q43; obtain ⟨hy44_, hz44_⟩ := Kd.R_celln 0 HO_14.out (x60_3 : Int) (of_decide_eq_true (by first | (with_reducible assumption) | assumption)) (of_decide_eq_true (by first | (with_reducible assumption) | assumption)); have HP44 := Kd.R_putg HO_14.out (x60_3 : Int) (wrap64 ((rd x14_4 x60_3) + (rd x11_2 x65_4)))) | ((with_reducible refine gate_store (t := 3) (p := 85) rfl ?_); refine store_event (t := 3) (p := 85) (v := ?vo_w45) (w1 := (wr.setCell ⟨go43, (x60_3 : Int).toNat, none⟩ (.int .i64 (wrap64 ((rd x14_4 x60_3) + (rd x11_2 x65_4)))))) ?hg ?ho ?hn ?hr ?_; (case ho => rfl); (case hg => rfl); (case hn => rfl); (case hr => first | (go_simp; done) | (go_simp; rfl)); intro w45 hw; have hg : wr.grownBy w45 (some go43) := (by rw [hw]; exact HP44.2); have hp_ : Kd.R (Kd.int .i64) 3 w45 w.heap.size (fun k_ => some k_ ≠ (.slice (some ad155) x11_2.length co34 : Value).ownBlock ∧ some k_ ≠ (.slice (some ad155) x11_2.length co34 : Value).ownBlock) (.slice (some ⟨go43, 0, none⟩) x14_4.length co32) y158 := (by rw [hw, Ny158.out]; exact HP44.1); clear HP44; have n0_ := Aside0.mk (Kd.R_after (v := (.slice (some ⟨go43, 0, none⟩) x14_4.length co32)) (v1 := (.slice (some ⟨go43, 0, none⟩) x14_4.length co32)) (ok := (fun _ => True)) (by (with_reducible repeat (first | apply Kd.R_alloc | apply Kd.R_drewN | apply Kd.R_drew)); exact Kd.R_mono HO_11.out (fun _ hk => ⟨trivial, hk⟩)) hg (.inl rfl)); have n1_ := Aside0.mk (hp_); have n2_ := Aside0.mk (Kd.R_after (v := (.slice (some ⟨go43, 0, none⟩) x14_4.length co32)) (v1 := (.slice (some ⟨go43, 0, none⟩) x14_4.length co32)) (ok := (fun _ => True)) (by (with_reducible repeat (first | apply Kd.R_alloc | apply Kd.R_drewN | apply Kd.R_drew)); exact Kd.R_mono HO_63.out (fun _ hk => ⟨trivial, hk⟩)) hg (.inl rfl)); have n3_ := Aside0.mk ((by rw [hw]; exact below_set (HB.out) GB43.out : Below w.heap.size w w45)); clear HO_11; clear HO_14; clear HO_63; clear HB; have HO_11 := n0_; have HO_14 := n1_; have HO_63 := n2_; have HB := n3_; clear n0_ n1_ n2_ n3_; clear hg hw hp_))
                                                (try simp only [← hl14_4])
                                                go_roundg k4
                                                case measure => have := HK1.out; have := HK2.out; have := HK3.out; have := HK4.out; omega
                                                case rel => exact ⟨(y158), (wrap64 (x65_4 + 1)), (by first | rfl | (simp; done) | (simp [*]; done)), H', ⟨by have := HK1.out; have := HK2.out; have := HK3.out; have := HK4.out; omega⟩, ⟨by (try simp only [hl11_1]); (try simp only [hl14_3]); (try simp only [hl14_4]); (with_reducible repeat (first | apply Kd.R_alloc | apply Kd.R_drewN | apply Kd.R_drew)); exact Kd.R_mono HO_11.out (fun _ hk => hk.2)⟩, ⟨by (try simp only [hl11_1]); (try simp only [hl14_3]); (try simp only [hl14_4]); (with_reducible repeat (first | apply Kd.R_alloc | apply Kd.R_drewN | apply Kd.R_drew)); exact HO_14.out⟩, ⟨by (try simp only [hl11_1]); (try simp only [hl14_3]); (try simp only [hl14_4]); (with_reducible repeat (first | apply Kd.R_alloc | apply Kd.R_drewN | apply Kd.R_drew)); exact Kd.R_mono HO_63.out (fun _ hk => hk.2)⟩, ⟨by repeat (first | (with_reducible first | exact HB.out | apply below_alloc | apply pw_below_drewN | apply below_drew1) | exact HB.out)⟩⟩
                                              · rw [if_neg c42] at H
                                                exact absurd H (by simp)
                                            · rw [if_neg c41] at H
                                              exact absurd H (by simp)
                                          · replace c40 := Bool.eq_false_iff.mpr c40
                                            subst c40
                                            have H1 : (spec_coEnds.l3 k4 a0 a1 a2 a3 x11_2 x13_2 x14_4 x60_3 (y152.length : Int) x60_3 x11_2 (x11_2.length : Int) (wrap64 (x65_4 + 1))) = some r := by rw [if_neg (show ¬ (false = true) by decide)] at H; exact H
                                            clear H
                                            have H := H1
                                            clear H1
                                            have H' := Aside0.mk H
                                            clear H
                                            have p155 : 0 ≤ (x65_4 : Int) := of_decide_eq_true (by first | (with_reducible assumption) | assumption)
                                            have q155 : x65_4 < (x11_2.length : Int) := of_decide_eq_true (by first | (with_reducible assumption) | assumption)
                                            obtain ⟨ad155, e155, hx155_0⟩ := Kd.at_int (Kd.R_reads' HO_63.out).2.2 x65_4 p155 q155
                                            cases e155
                                            replace p155 := eq_true p155
                                            replace q155 := eq_true q155
                                            go_wp2_with (first | (go_at_call 42; (with_reducible refine (spec_coAllows.calls a0 x13_2 x65_4 false _ A39.out).mono ?_); rintro e w' ⟨rfl, ⟨nd, rfl⟩⟩))
                                            (try simp only [← hl14_4])
                                            go_roundg k4
                                            case measure => have := HK1.out; have := HK2.out; have := HK3.out; have := HK4.out; omega
                                            case rel => exact ⟨(x14_4), (wrap64 (x65_4 + 1)), (by first | rfl | (simp; done) | (simp [*]; done)), H', ⟨by have := HK1.out; have := HK2.out; have := HK3.out; have := HK4.out; omega⟩, ⟨by (try simp only [hl11_1]); (try simp only [hl14_3]); (try simp only [hl14_4]); (with_reducible repeat (first | apply Kd.R_alloc | apply Kd.R_drewN | apply Kd.R_drew)); exact HO_11.out⟩, ⟨by (try simp only [hl11_1]); (try simp only [hl14_3]); (try simp only [hl14_4]); (with_reducible repeat (first | apply Kd.R_alloc | apply Kd.R_drewN | apply Kd.R_drew)); exact HO_14.out⟩, ⟨by (try simp only [hl11_1]); (try simp only [hl14_3]); (try simp only [hl14_4]); (with_reducible repeat (first | apply Kd.R_alloc | apply Kd.R_drewN | apply Kd.R_drew)); exact HO_63.out⟩, ⟨by repeat (first | (with_reducible first | exact HB.out | apply below_alloc | apply pw_below_drewN | apply below_drew1) | exact HB.out)⟩⟩
                                      · rw [if_neg c37] at H
                                        exact absurd H (by simp)
                                    · rw [if_neg c36] at H
                                      exact absurd H (by simp)
                                  · rw [if_neg c35] at H
                                    have c35b0 : decide (x65_4 < (x11_2.length : Int)) = false := decide_eq_false c35
                                    clear c35
                                    have H' := Aside0.mk H
                                    clear H
                                    go_wp2
                                    (try simp only [← hl14_3, ← hl14_4])
                                    go_roundg k4
                                    case measure => have := HK1.out; have := HK2.out; have := HK3.out; have := HK4.out; omega
                                    case rel => exact ⟨(x14_4), (wrap64 (x60_3 + 1)), (by first | rfl | (simp; done) | (simp [*]; done)), H', ⟨by have := HK1.out; have := HK2.out; have := HK3.out; have := HK4.out; omega⟩, ⟨by (try simp only [hl11_1]); (try simp only [hl14_3]); (try simp only [hl14_4]); (with_reducible repeat (first | apply Kd.R_alloc | apply Kd.R_drewN | apply Kd.R_drew)); exact HO_11.out⟩, ⟨by (try simp only [hl11_1]); (try simp only [hl14_3]); (try simp only [hl14_4]); (with_reducible repeat (first | apply Kd.R_alloc | apply Kd.R_drewN | apply Kd.R_drew)); exact Kd.R_mono HO_14.out (fun _ hk => hk.1)⟩, ⟨by repeat (first | (with_reducible first | exact HB.out | apply below_alloc | apply pw_below_drewN | apply below_drew1) | exact HB.out)⟩⟩
                            · rw [if_neg c33] at H
                              have c33b0 : decide (x60_3 < (y152.length : Int)) = false := decide_eq_false c33
                              try (have c33z := c33b0; rw [hl11_1] at c33z)
                              try (have c33y := c33b0; rw [hl14_3] at c33y)
                              try (have c33x := c33b0; rw [hl14_3, hl14_4] at c33x)
                              clear c33
                              have H' := Aside0.mk H
                              clear H
                              go_wp2
                              (try simp only [← hl14_3])
                              go_roundg k3
                              case measure => have := HK1.out; have := HK2.out; have := HK3.out; omega
                              case rel => exact ⟨(x14_3), (wrap64 (x13_2 - 1)), (by first | rfl | (simp; done) | (simp [*]; done)), H', ⟨by have := HK1.out; have := HK2.out; have := HK3.out; omega⟩, ⟨by (try simp only [hl11_1]); (try simp only [hl14_3]); (with_reducible repeat (first | apply Kd.R_alloc | apply Kd.R_drewN | apply Kd.R_drew)); exact Kd.R_mono HO_14.out (fun _ hk => trivial)⟩, ⟨by repeat (first | (with_reducible first | exact HB.out | apply below_alloc | apply pw_below_drewN | apply below_drew1) | exact HB.out)⟩⟩
                      · rw [if_neg c29] at H
                        exact absurd H (by simp)
                    · rw [if_neg c28] at H
                      exact absurd H (by simp)
                  · rw [if_neg c27] at H
                    have c27b0 : decide (a2 < x13_2) = false := decide_eq_false c27
                    clear c27
                    have H' := Aside0.mk H
                    clear H
                    obtain ⟨Ao46, co46, eo46⟩ := Kd.R_slice HO_11.out
                    subst eo46
                    go_wp2
                    go_loopg [18, 91] k2 (fun kq v18 v91 w' => ∃ (x18_3 : Int) (x91_3 : Int), v18 = .int .i64 x18_3 ∧ v91 = .int .i64 x91_3 ∧ Aside0 (spec_coEnds.l4 kq a0 a2 a3 x18_3 x11_2 (x11_2.length : Int) x91_3 = some r) ∧ Aside0 (kq ≤ k2) ∧ Aside0 (Kd.R (Kd.int .i64) 3 w' w.heap.size (fun _ => True) (.slice Ao46 x11_2.length co46) x11_2) ∧ Aside0 (Below w.heap.size w w'))
                    case atStart => exact ⟨(0), (0), (by first | rfl | (simp; done) | (simp [*]; done)), (by first | rfl | (simp; done) | (simp [*]; done)), H', ⟨Nat.le_refl _⟩, ⟨by (try simp only [hl11_1]); (with_reducible repeat (first | apply Kd.R_alloc | apply Kd.R_drewN | apply Kd.R_drew)); exact HO_11.out⟩, ⟨by repeat (first | (with_reducible first | exact HB.out | apply below_alloc | apply pw_below_drewN | apply below_drew1) | exact HB.out)⟩⟩
                    case round =>
                      clear H'
                      try clear c1
                      try clear p1
                      try clear q1
                      try clear hx1
                      try clear c2
                      try clear p2
                      try clear c3
                      try clear c4
                      try clear p4
                      try clear q4
                      try clear hx4
                      try clear c6
                      try clear c6b0
                      try clear c6b1
                      try clear p6
                      try clear c7
                      try clear c7b0
                      try clear c7b1
                      try clear c11
                      try clear c11b0
                      try clear c12
                      try clear c12b0
                      try clear c13
                      try clear c13b0
                      try clear p14
                      try clear q14
                      try clear hx14
                      try clear hf14
                      try clear c15
                      try clear c15b0
                      try clear c15b1
                      try clear p15
                      try clear q15
                      try clear hx15
                      try clear p16
                      try clear q16
                      try clear hx16
                      try clear hf16
                      try clear c23
                      try clear c23b0
                      try clear c23b1
                      try clear c24
                      try clear c24b0
                      try clear c25
                      try clear c25b0
                      try clear c26
                      try clear c26b0
                      try clear c27
                      try clear c27b0
                      try clear c28
                      try clear c28b0
                      try clear c28b1
                      try clear c29
                      try clear c29b0
                      try clear c29b1
                      try clear c33
                      try clear c33b0
                      try clear c35
                      try clear c35b0
                      try clear c36
                      try clear c36b0
                      try clear c37
                      try clear c37b0
                      try clear c38
                      try clear c38b0
                      try clear c38b1
                      try clear c40
                      try clear c41
                      try clear c41b0
                      try clear c42
                      try clear c42b0
                      try clear p43
                      try clear q43
                      try clear hx43
                      try clear hf43
                      try clear hx14_0
                      try clear hx151_0
                      try clear hx155_0
                      try clear hx157_0
                      try clear hx16_0
                      try clear hx43_0
                      try clear p1
                      try clear p14
                      try clear p15
                      try clear p151
                      try clear p155
                      try clear p157
                      try clear p16
                      try clear p2
                      try clear p43
                      try clear p6
                      try clear q1
                      try clear q14
                      try clear q15
                      try clear q151
                      try clear q155
                      try clear q157
                      try clear q16
                      try clear q43
                      obtain ⟨x18_3, x91_3, rfl, rfl, HA, HK3, HO_89, HB⟩ := hrel
                      cases gk with
                      | zero => exact absurd HA.out (by simp [spec_coEnds.l4])
                      | succ k3 =>
                        have H := HA.out
                        clear HA
                        simp only [spec_coEnds.l4] at H
                        by_cases c47 : x91_3 < (x11_2.length : Int)
                        · rw [if_pos c47] at H
                          have c47b0 : decide (x91_3 < (x11_2.length : Int)) = true := decide_eq_true c47
                          clear c47
                          by_cases c48 : 0 ≤ x91_3
                          · rw [if_pos c48] at H
                            have c48b0 : decide (0 ≤ x91_3) = true := decide_eq_true c48
                            clear c48
                            by_cases c49 : x91_3 < (x11_2.length : Int)
                            · rw [if_pos c49] at H
                              have c49b0 : decide (x91_3 < (x11_2.length : Int)) = true := decide_eq_true c49
                              clear c49
                              by_cases c50 : x91_3 = a3
                              · rw [if_pos c50] at H
                                have c50b0 : (x91_3 == a3) = true := beq_iff_eq.mpr c50
                                have c50b1 : (x91_3 != a3) = false := bne_eq_false_iff_eq.mpr c50
                                clear c50
                                have H' := Aside0.mk H
                                clear H
                                have p159 : 0 ≤ (x91_3 : Int) := of_decide_eq_true (by first | (with_reducible assumption) | assumption)
                                have q159 : x91_3 < (x11_2.length : Int) := of_decide_eq_true (by first | (with_reducible assumption) | assumption)
                                obtain ⟨ad159, e159, hx159_0⟩ := Kd.at_int (Kd.R_reads' HO_89.out).2.2 x91_3 p159 q159
                                cases e159
                                replace p159 := eq_true p159
                                replace q159 := eq_true q159
                                go_wp2
                                go_roundg k3
                                case measure => have := HK1.out; have := HK2.out; have := HK3.out; omega
                                case rel => exact ⟨(x18_3), (wrap64 (x91_3 + 1)), (by first | rfl | (simp; done) | (simp [*]; done)), (by first | rfl | (simp; done) | (simp [*]; done)), H', ⟨by have := HK1.out; have := HK2.out; have := HK3.out; omega⟩, ⟨by (try simp only [hl11_1]); (with_reducible repeat (first | apply Kd.R_alloc | apply Kd.R_drewN | apply Kd.R_drew)); exact HO_89.out⟩, ⟨by repeat (first | (with_reducible first | exact HB.out | apply below_alloc | apply pw_below_drewN | apply below_drew1) | exact HB.out)⟩⟩
                              · rw [if_neg c50] at H
                                have c50b0 : (x91_3 == a3) = false := beq_eq_false_iff_ne.mpr c50
                                have c50b1 : (x91_3 != a3) = true := bne_iff_ne.mpr c50
                                replace H := Option.bind_eq_some_iff.mp H
                                obtain ⟨t160, A510, H⟩ := H
                                replace H : (if t160 = true then (spec_coEnds.l4 k3 a0 a2 a3 (wrap64 (x18_3 + (rd x11_2 x91_3))) x11_2 (x11_2.length : Int) (wrap64 (x91_3 + 1))) else (spec_coEnds.l4 k3 a0 a2 a3 x18_3 x11_2 (x11_2.length : Int) (wrap64 (x91_3 + 1)))) = some r := H
                                have A51 := Aside0.mk A510
                                clear A510
                                by_cases c52 : t160 = true
                                · subst c52
                                  have H1 : (spec_coEnds.l4 k3 a0 a2 a3 (wrap64 (x18_3 + (rd x11_2 x91_3))) x11_2 (x11_2.length : Int) (wrap64 (x91_3 + 1))) = some r := by rw [if_pos rfl] at H; exact H
                                  clear H
                                  have H := H1
                                  clear H1
                                  have H' := Aside0.mk H
                                  clear H
                                  have p159 : 0 ≤ (x91_3 : Int) := of_decide_eq_true (by first | (with_reducible assumption) | assumption)
                                  have q159 : x91_3 < (x11_2.length : Int) := of_decide_eq_true (by first | (with_reducible assumption) | assumption)
                                  obtain ⟨ad159, e159, hx159_0⟩ := Kd.at_int (Kd.R_reads' HO_89.out).2.2 x91_3 p159 q159
                                  cases e159
                                  replace p159 := eq_true p159
                                  replace q159 := eq_true q159
                                  go_wp2_with (first | (go_at_call 42; (with_reducible refine (spec_coAllows.calls a0 a2 x91_3 true _ A51.out).mono ?_); rintro e w' ⟨rfl, ⟨nd, rfl⟩⟩))
                                  go_roundg k3
                                  case measure => have := HK1.out; have := HK2.out; have := HK3.out; omega
                                  case rel => exact ⟨(wrap64 (x18_3 + (rd x11_2 x91_3))), (wrap64 (x91_3 + 1)), (by first | rfl | (simp; done) | (simp [*]; done)), (by first | rfl | (simp; done) | (simp [*]; done)), H', ⟨by have := HK1.out; have := HK2.out; have := HK3.out; omega⟩, ⟨by (try simp only [hl11_1]); (with_reducible repeat (first | apply Kd.R_alloc | apply Kd.R_drewN | apply Kd.R_drew)); exact HO_89.out⟩, ⟨by repeat (first | (with_reducible first | exact HB.out | apply below_alloc | apply pw_below_drewN | apply below_drew1) | exact HB.out)⟩⟩
                                · replace c52 := Bool.eq_false_iff.mpr c52
                                  subst c52
                                  have H1 : (spec_coEnds.l4 k3 a0 a2 a3 x18_3 x11_2 (x11_2.length : Int) (wrap64 (x91_3 + 1))) = some r := by rw [if_neg (show ¬ (false = true) by decide)] at H; exact H
                                  clear H
                                  have H := H1
                                  clear H1
                                  have H' := Aside0.mk H
                                  clear H
                                  have p159 : 0 ≤ (x91_3 : Int) := of_decide_eq_true (by first | (with_reducible assumption) | assumption)
                                  have q159 : x91_3 < (x11_2.length : Int) := of_decide_eq_true (by first | (with_reducible assumption) | assumption)
                                  obtain ⟨ad159, e159, hx159_0⟩ := Kd.at_int (Kd.R_reads' HO_89.out).2.2 x91_3 p159 q159
                                  cases e159
                                  replace p159 := eq_true p159
                                  replace q159 := eq_true q159
                                  go_wp2_with (first | (go_at_call 42; (with_reducible refine (spec_coAllows.calls a0 a2 x91_3 false _ A51.out).mono ?_); rintro e w' ⟨rfl, ⟨nd, rfl⟩⟩))
                                  go_roundg k3
                                  case measure => have := HK1.out; have := HK2.out; have := HK3.out; omega
                                  case rel => exact ⟨(x18_3), (wrap64 (x91_3 + 1)), (by first | rfl | (simp; done) | (simp [*]; done)), (by first | rfl | (simp; done) | (simp [*]; done)), H', ⟨by have := HK1.out; have := HK2.out; have := HK3.out; omega⟩, ⟨by (try simp only [hl11_1]); (with_reducible repeat (first | apply Kd.R_alloc | apply Kd.R_drewN | apply Kd.R_drew)); exact HO_89.out⟩, ⟨by repeat (first | (with_reducible first | exact HB.out | apply below_alloc | apply pw_below_drewN | apply below_drew1) | exact HB.out)⟩⟩
                            · rw [if_neg c49] at H
                              exact absurd H (by simp)
                          · rw [if_neg c48] at H
                            exact absurd H (by simp)
                        · rw [if_neg c47] at H
                          have c47b0 : decide (x91_3 < (x11_2.length : Int)) = false := decide_eq_false c47
                          clear c47
                          obtain rfl := Option.some.inj H
                          go_wp2
                          go_ret
                          exact ⟨by first | rfl | (simp [errW_none, errW_some] <;> rfl) | (simp [*, errW_none, errW_some] <;> rfl), by repeat (first | (with_reducible first | exact HB.out | apply below_alloc | apply pw_below_drewN | apply below_drew1) | exact HB.out)⟩
    · rw [if_neg c7] at H
      exact absurd H (by simp)
  · rw [if_neg c6] at H
    exact absurd H (by simp)

end Go.Proofs.Ytnkpdcidlnjnpaa.P
