-- Printed by wip/pp.py of this claim's session (the kit's print over functions that are given by hand). Not trusted: Lean checks it.
import Derived.Test.YtcnancjkajbldaaPx0
import Derived.Test.YtcnancjkajbldaaPx2
namespace Go.Proofs.Ytcnancjkajbldaa.P
open Go.RowKit Go.Proofs.YtcnancjkajbldaaW.PrintWords Go.Proofs.YtcnancjkajbldaaW.PrintLast Go.Proofs.YtcnancjkajbldaaW.PrintMore
attribute [local go_sem] max2_int min2_int max_two min_two max_three min_three max_four min_four   -- for this text's walks alone
set_option linter.unusedVariables false
set_option linter.unusedSimpArgs false

/-! ### spec_shLeast: function 32 -/
mutual
def spec_shLeast.l0 : Nat → List Int → List Int → Int → Int → Int → Int → Option (Int)
  | 0, _, _, _, _, _, _ => none
  | k + 1, x0, x1, x2, x3, x9, x10 => if (wrap64 (x2 + x10)) ≤ (x0.length : Int) then (if 0 ≤ x3 then (if x3 < (x1.length : Int) then (if 0 ≤ x2 then (if x2 ≤ (wrap64 (x2 + x10)) then ((spec_shSum.f k ((x0.take ((wrap64 (x2 + x10)) : Int).toNat).drop (x2 : Int).toNat)).bind fun t115 => (if x9 ≥ 0 then (spec_shLeast.j1 k x0 x1 x2 x3 x9 x10 (wrap64 ((rd x1 x3) * t115)) (decide ((wrap64 ((rd x1 x3) * t115)) ≥ x9))) else (spec_shLeast.j1 k x0 x1 x2 x3 x9 x10 (wrap64 ((rd x1 x3) * t115)) false))) else (none)) else (none)) else (none)) else (none)) else (some x9)
def spec_shLeast.j1 : Nat → List Int → List Int → Int → Int → Int → Int → Int → Bool → Option (Int)
  | 0, _, _, _, _, _, _, _, _ => none
  | k + 1, x0, x1, x2, x3, x9, x10, x11, x53 => if x53 = true then (some x9) else ((spec_shLeast.f k x0 x1 (wrap64 (x2 + x10)) (wrap64 (x3 + 1))).bind fun t116 => ((spec_l1Most.f x11 t116).bind fun t117 => (if x9 < 0 then (spec_shLeast.l0 k x0 x1 x2 x3 t117 (wrap64 (x10 + 1))) else (if t117 < x9 then (spec_shLeast.l0 k x0 x1 x2 x3 t117 (wrap64 (x10 + 1))) else (spec_shLeast.l0 k x0 x1 x2 x3 x9 (wrap64 (x10 + 1)))))))
def spec_shLeast.f : Nat → List Int → List Int → Int → Int → Option (Int)
  | 0, _, _, _, _ => none
  | k + 1, l0, l1, a2, a3 => if a3 = (wrap64 ((l1.length : Int) - 1)) then (if 0 ≤ a3 then (if a3 < (l1.length : Int) then (if 0 ≤ a2 then (if a2 ≤ (l0.length : Int) then ((spec_shSum.f k (l0.drop (a2 : Int).toNat)).bind fun t112 => (some (wrap64 ((rd l1 a3) * t112)))) else (none)) else (none)) else (none)) else (none)) else (spec_shLeast.l0 k l0 l1 a2 a3 (-1) 0)
end
theorem spec_shLeast.mono_l : ∀ k, (∀ y0 y1 y2 y3, LeO (spec_shLeast.f k y0 y1 y2 y3) (spec_shLeast.f (k + 1) y0 y1 y2 y3)) ∧ (∀ y0 y1 y2 y3 y4 y5, LeO (spec_shLeast.l0 k y0 y1 y2 y3 y4 y5) (spec_shLeast.l0 (k + 1) y0 y1 y2 y3 y4 y5)) ∧ (∀ y0 y1 y2 y3 y4 y5 y6 y7, LeO (spec_shLeast.j1 k y0 y1 y2 y3 y4 y5 y6 y7) (spec_shLeast.j1 (k + 1) y0 y1 y2 y3 y4 y5 y6 y7))
  | 0 => ⟨fun _ _ _ _ r h => by simp [spec_shLeast.f] at h, fun _ _ _ _ _ _ r h => by simp [spec_shLeast.l0] at h, fun _ _ _ _ _ _ _ _ r h => by simp [spec_shLeast.j1] at h⟩
  | k + 1 => by
    obtain ⟨ih0, ih1, ih2⟩ := spec_shLeast.mono_l k
    refine ⟨?_, ?_, ?_⟩
    · intro y0 y1 y2 y3
      unfold spec_shLeast.f
      repeat' first
      | (with_reducible exact ih0 _ _ _ _)
      | (with_reducible exact ih1 _ _ _ _ _ _)
      | (with_reducible exact ih2 _ _ _ _ _ _ _ _)
      | (with_reducible exact spec_shSum.mono _ _)
      | (with_reducible exact LeO.refl _)
      | (with_reducible exact LeO.none _)
      | (with_reducible refine LeO.ite ?_ ?_)
      | (with_reducible refine LeO.bind ?_ (fun _ => ?_))
      | exact ih0 _ _ _ _
      | exact ih1 _ _ _ _ _ _
      | exact ih2 _ _ _ _ _ _ _ _
      | exact spec_shSum.mono _ _
      | exact LeO.none _
      | refine LeO.ite ?_ ?_
      | refine LeO.bind ?_ (fun _ => ?_)
    · intro y0 y1 y2 y3 y4 y5
      unfold spec_shLeast.l0
      repeat' first
      | (with_reducible exact ih0 _ _ _ _)
      | (with_reducible exact ih1 _ _ _ _ _ _)
      | (with_reducible exact ih2 _ _ _ _ _ _ _ _)
      | (with_reducible exact spec_shSum.mono _ _)
      | (with_reducible exact LeO.refl _)
      | (with_reducible exact LeO.none _)
      | (with_reducible refine LeO.ite ?_ ?_)
      | (with_reducible refine LeO.bind ?_ (fun _ => ?_))
      | exact ih0 _ _ _ _
      | exact ih1 _ _ _ _ _ _
      | exact ih2 _ _ _ _ _ _ _ _
      | exact spec_shSum.mono _ _
      | exact LeO.none _
      | refine LeO.ite ?_ ?_
      | refine LeO.bind ?_ (fun _ => ?_)
    · intro y0 y1 y2 y3 y4 y5 y6 y7
      unfold spec_shLeast.j1
      repeat' first
      | (with_reducible exact ih0 _ _ _ _)
      | (with_reducible exact ih1 _ _ _ _ _ _)
      | (with_reducible exact ih2 _ _ _ _ _ _ _ _)
      | (with_reducible exact spec_shSum.mono _ _)
      | (with_reducible exact LeO.refl _)
      | (with_reducible exact LeO.none _)
      | (with_reducible refine LeO.ite ?_ ?_)
      | (with_reducible refine LeO.bind ?_ (fun _ => ?_))
      | exact ih0 _ _ _ _
      | exact ih1 _ _ _ _ _ _
      | exact ih2 _ _ _ _ _ _ _ _
      | exact spec_shSum.mono _ _
      | exact LeO.none _
      | refine LeO.ite ?_ ?_
      | refine LeO.bind ?_ (fun _ => ?_)
theorem spec_shLeast.mono : ∀ a0 a1 a2 a3 k, LeO (spec_shLeast.f k a0 a1 a2 a3) (spec_shLeast.f (k + 1) a0 a1 a2 a3) := by
  intro a0 a1 a2 a3 k
  obtain ⟨ih0, ih1, ih2⟩ := spec_shLeast.mono_l k
  exact ih0 a0 a1 a2 a3
set_option maxHeartbeats 8000000 in
set_option maxRecDepth 100000 in
theorem spec_shLeast.calls (k : Nat) : ∀ (A0 : Option Addr) (c0 : Nat) (l0 : List Int) (A1 : Option Addr) (c1 : Nat) (l1 : List Int) (a2 : Int) (a3 : Int) (r : Int) (w : World) (hr0 : Kd.C (Kd.int .i64) w A0 l0.length l0) (hc0 : l0.length ≤ c0) (hr1 : Kd.C (Kd.int .i64) w A1 l1.length l1) (hc1 : l1.length ≤ c1) (h : spec_shLeast.f k l0 l1 a2 a3 = some r),
    Calls Try.prog 32 #[.slice A0 l0.length c0, .slice A1 l1.length c1, .int .i64 a2, .int .i64 a3] w fun e w' => e = .returned (.int .i64 r) ∧ Drawn0 w w' := by
  induction k using Nat.strongRecOn with
  | _ k ih =>
  intro A0 c0 l0 A1 c1 l1 a2 a3 r w hr0 hc0 hr1 hc1 h
  cases k with
  | zero => exact absurd h (by simp [spec_shLeast.f])
  | succ k =>
  simp only [spec_shLeast.f] at h
  have HR0 := Aside0.mk hr0
  have HC0 := Aside0.mk hc0
  clear hr0 hc0
  have HR1 := Aside0.mk hr1
  have HC1 := Aside0.mk hc1
  clear hr1 hc1
  have H : (if a3 = (wrap64 ((l1.length : Int) - 1)) then (if 0 ≤ a3 then (if a3 < (l1.length : Int) then (if 0 ≤ a2 then (if a2 ≤ (l0.length : Int) then ((spec_shSum.f k (l0.drop (a2 : Int).toNat)).bind fun t112 => (some (wrap64 ((rd l1 a3) * t112)))) else (none)) else (none)) else (none)) else (none)) else (spec_shLeast.l0 k l0 l1 a2 a3 (-1) 0)) = some r := h
  clear h
  by_cases c5 : a3 = (wrap64 ((l1.length : Int) - 1))
  · rw [if_pos c5] at H
    have c5b0 : (a3 == (wrap64 ((l1.length : Int) - 1))) = true := beq_iff_eq.mpr c5
    have c5b1 : (a3 != (wrap64 ((l1.length : Int) - 1))) = false := bne_eq_false_iff_eq.mpr c5
    clear c5
    by_cases c6 : 0 ≤ a3
    · rw [if_pos c6] at H
      have c6b0 : decide (0 ≤ a3) = true := decide_eq_true c6
      clear c6
      by_cases c7 : a3 < (l1.length : Int)
      · rw [if_pos c7] at H
        have c7b0 : decide (a3 < (l1.length : Int)) = true := decide_eq_true c7
        clear c7
        by_cases c8 : 0 ≤ a2
        · rw [if_pos c8] at H
          have c8b0 := eq_true c8
          have c8b1 : decide (0 ≤ a2) = true := decide_eq_true c8
          clear c8
          by_cases c9 : a2 ≤ (l0.length : Int)
          · rw [if_pos c9] at H
            have c9b0 := eq_true c9
            have c9b1 : decide (a2 ≤ (l0.length : Int)) = true := decide_eq_true c9
            clear c9
            replace H := Option.bind_eq_some_iff.mp H
            obtain ⟨t112, A100, H⟩ := H
            replace H : (some (wrap64 ((rd l1 a3) * t112))) = some r := H
            have A10 := Aside0.mk A100
            clear A100
            obtain rfl := Option.some.inj H
            have p110 : 0 ≤ (a3 : Int) := of_decide_eq_true (by first | (with_reducible assumption) | assumption)
            have q110 : a3 < (l1.length : Int) := of_decide_eq_true (by first | (with_reducible assumption) | assumption)
            obtain ⟨ad110, e110, hx110_0⟩ := Kd.at_int HR1.out a3 p110 q110
            cases e110
            replace p110 := eq_true p110
            replace q110 := eq_true q110
            obtain ⟨i011, hi011, _, hsz11, _⟩ := info_parts info3
            obtain ⟨A11, hcut11, hA11, hC11⟩ := print_drop_of (P := Try.prog) (Value.int .i64) 0 22 3 .i64 Try.underlying22 hi011 hsz11 A0 c0 l0 a2 (of_decide_eq_true (by first | (with_reducible assumption) | assumption)) (of_decide_eq_true (by first | (with_reducible assumption) | assumption)) HC0.out
            have HR111 := Aside0.mk (Kd.C_of_reads (h1 := fun _ => rfl) (hA11 _ (Kd.reads_of_C HR0.out)))
            have HC111 := Aside0.mk hC11
            clear hA11 hC11 hi011 hsz11
            go_enter Try.func32, Try.ntmps32
            go_wp2_with (first | (go_at_call 53; (try simp only [i64_w]); (try simp only [← List.length_drop, ← List.length_take]); (with_reducible refine (spec_shSum.calls k _ _ (l0.drop (a2 : Int).toNat) t112 _ ?side1 ?side2 A10.out).mono ?_); (case side1 => repeat (first | exact HR111.out | (with_reducible refine Kd.C_alloc ?_ _) | (with_reducible refine Kd.C_drewN ?_ _) | (with_reducible refine Kd.C_drew ?_))); (case side2 => exact HC111.out); rintro e w' ⟨rfl, ⟨nd, rfl⟩⟩; (try first | exact ⟨rfl, _, World.drewN_drewN _ _ _⟩ | exact ⟨rfl, _, Eq.trans (World.drewN_drewN _ _ _) (congrArg (World.drewN _) (Nat.add_assoc _ _ _))⟩)))
            repeat (go_quiet (first | (go_at_call 53; (try simp only [i64_w]); (try simp only [← List.length_drop, ← List.length_take]); (with_reducible refine (spec_shSum.calls k _ _ (l0.drop (a2 : Int).toNat) t112 _ ?side1 ?side2 A10.out).mono ?_); (case side1 => repeat (first | exact HR111.out | (with_reducible refine Kd.C_alloc ?_ _) | (with_reducible refine Kd.C_drewN ?_ _) | (with_reducible refine Kd.C_drew ?_))); (case side2 => exact HC111.out); rintro e w' ⟨rfl, ⟨nd, rfl⟩⟩; (try first | exact ⟨rfl, _, World.drewN_drewN _ _ _⟩ | exact ⟨rfl, _, Eq.trans (World.drewN_drewN _ _ _) (congrArg (World.drewN _) (Nat.add_assoc _ _ _))⟩))); try go_wp2_with (first | (go_at_call 53; (try simp only [i64_w]); (try simp only [← List.length_drop, ← List.length_take]); (with_reducible refine (spec_shSum.calls k _ _ (l0.drop (a2 : Int).toNat) t112 _ ?side1 ?side2 A10.out).mono ?_); (case side1 => repeat (first | exact HR111.out | (with_reducible refine Kd.C_alloc ?_ _) | (with_reducible refine Kd.C_drewN ?_ _) | (with_reducible refine Kd.C_drew ?_))); (case side2 => exact HC111.out); rintro e w' ⟨rfl, ⟨nd, rfl⟩⟩; (try first | exact ⟨rfl, _, World.drewN_drewN _ _ _⟩ | exact ⟨rfl, _, Eq.trans (World.drewN_drewN _ _ _) (congrArg (World.drewN _) (Nat.add_assoc _ _ _))⟩))))
            go_ret
            exact ⟨by first | rfl | (simp; done) | (simp [*]; done), by repeat (first | exact Drawn0.refl _ | apply Drawn0.step)⟩
          · rw [if_neg c9] at H
            exact absurd H (by simp)
        · rw [if_neg c8] at H
          exact absurd H (by simp)
      · rw [if_neg c7] at H
        exact absurd H (by simp)
    · rw [if_neg c6] at H
      exact absurd H (by simp)
  · rw [if_neg c5] at H
    have c5b0 : (a3 == (wrap64 ((l1.length : Int) - 1))) = false := beq_eq_false_iff_ne.mpr c5
    have c5b1 : (a3 != (wrap64 ((l1.length : Int) - 1))) = true := bne_iff_ne.mpr c5
    have H' := Aside0.mk H
    clear H
    go_enter Try.func32, Try.ntmps32
    go_wp2
    repeat (go_quiet (fail); try go_wp2)
    go_loopg [9, 10] k (fun kq v9 v10 w' => ∃ (x9_1 : Int) (x10_1 : Int), v9 = .int .i64 x9_1 ∧ v10 = .int .i64 x10_1 ∧ Aside0 (spec_shLeast.l0 kq l0 l1 a2 a3 x9_1 x10_1 = some r) ∧ Aside0 (kq ≤ k) ∧ Drawn0 w w')
    case atStart => exact ⟨((-1)), (0), (by first | rfl | (simp; done) | (simp [*]; done)), (by first | rfl | (simp; done) | (simp [*]; done)), H', ⟨Nat.le_refl _⟩, by repeat (first | exact Drawn0.refl _ | apply Drawn0.step)⟩
    case round =>
      clear H'
      try clear c1
      try clear p1
      try clear q1
      try clear hx1
      try clear p2
      try clear c3
      try clear c5
      try clear c5b0
      try clear c5b1
      try clear c6
      try clear c6b0
      try clear p6
      try clear c7
      try clear c7b0
      try clear c8
      try clear c8b0
      try clear c8b1
      try clear c9
      try clear c9b0
      try clear c9b1
      try clear p11
      try clear q11
      try clear hx11
      try clear hx110_0
      try clear p110
      try clear q110
      obtain ⟨x9_1, x10_1, rfl, rfl, HA, HK1, ⟨m1, rfl⟩⟩ := hrel
      cases gk with
      | zero => exact absurd HA.out (by simp [spec_shLeast.l0])
      | succ k1 =>
        have H := HA.out
        clear HA
        simp only [spec_shLeast.l0] at H
        by_cases c12 : (wrap64 (a2 + x10_1)) ≤ (l0.length : Int)
        · rw [if_pos c12] at H
          have c12b0 : decide ((wrap64 (a2 + x10_1)) ≤ (l0.length : Int)) = true := decide_eq_true c12
          clear c12
          by_cases c13 : 0 ≤ a3
          · rw [if_pos c13] at H
            have c13b0 : decide (0 ≤ a3) = true := decide_eq_true c13
            clear c13
            by_cases c14 : a3 < (l1.length : Int)
            · rw [if_pos c14] at H
              have c14b0 : decide (a3 < (l1.length : Int)) = true := decide_eq_true c14
              clear c14
              by_cases c15 : 0 ≤ a2
              · rw [if_pos c15] at H
                have c15b0 := eq_true c15
                have c15b1 : decide (0 ≤ a2) = true := decide_eq_true c15
                clear c15
                by_cases c16 : a2 ≤ (wrap64 (a2 + x10_1))
                · rw [if_pos c16] at H
                  have c16b0 := eq_true c16
                  have c16b1 : decide (a2 ≤ (wrap64 (a2 + x10_1))) = true := decide_eq_true c16
                  have c17b0 := eq_true (of_decide_eq_true (by first | (with_reducible assumption) | assumption) : (wrap64 (a2 + x10_1)) ≤ (l0.length : Int))
                  replace H := Option.bind_eq_some_iff.mp H
                  obtain ⟨t115, A180, H⟩ := H
                  replace H : (if x9_1 ≥ 0 then (spec_shLeast.j1 k1 l0 l1 a2 a3 x9_1 x10_1 (wrap64 ((rd l1 a3) * t115)) (decide ((wrap64 ((rd l1 a3) * t115)) ≥ x9_1))) else (spec_shLeast.j1 k1 l0 l1 a2 a3 x9_1 x10_1 (wrap64 ((rd l1 a3) * t115)) false)) = some r := H
                  have A18 := Aside0.mk A180
                  clear A180
                  have HC19 := Aside0.mk H
                  clear H
                  have p113 : 0 ≤ (a3 : Int) := of_decide_eq_true (by first | (with_reducible assumption) | assumption)
                  have q113 : a3 < (l1.length : Int) := of_decide_eq_true (by first | (with_reducible assumption) | assumption)
                  obtain ⟨ad113, e113, hx113_0⟩ := Kd.at_int HR1.out a3 p113 q113
                  cases e113
                  replace p113 := eq_true p113
                  replace q113 := eq_true q113
                  obtain ⟨i020, hi020, _, hsz20, _⟩ := info_parts info3
                  obtain ⟨A20, hcut20, hA20, hC20⟩ := print_mid_of (P := Try.prog) (Value.int .i64) 0 22 3 .i64 .i64 Try.underlying22 hi020 hsz20 A0 c0 l0 a2 (wrap64 (a2 + x10_1)) (of_decide_eq_true (by first | (with_reducible assumption) | assumption)) (by first | omega | exact of_decide_eq_true (by first | (with_reducible assumption) | assumption)) (of_decide_eq_true (by first | (with_reducible assumption) | assumption)) HC0.out
                  have hcutw20 := hcut20
                  try simp only [← i64_w] at hcutw20
                  have HR114 := Aside0.mk (Kd.C_of_reads (h1 := fun _ => rfl) (hA20 _ (Kd.reads_of_C HR0.out)))
                  have HC114 := Aside0.mk hC20
                  clear hA20 hC20 hi020 hsz20
                  go_upto_region 8 with (first | (go_at_call 53; (try simp only [i64_w]); (try simp only [← List.length_drop, ← List.length_take]); (with_reducible refine (spec_shSum.calls k1 _ _ ((l0.take ((wrap64 (a2 + x10_1)) : Int).toNat).drop (a2 : Int).toNat) t115 _ ?side1 ?side2 A18.out).mono ?_); (case side1 => repeat (first | exact HR114.out | (with_reducible refine Kd.C_alloc ?_ _) | (with_reducible refine Kd.C_drewN ?_ _) | (with_reducible refine Kd.C_drew ?_))); (case side2 => exact HC114.out); rintro e w' ⟨rfl, ⟨nd, rfl⟩⟩; (try first | exact ⟨rfl, _, World.drewN_drewN _ _ _⟩ | exact ⟨rfl, _, Eq.trans (World.drewN_drewN _ _ _) (congrArg (World.drewN _) (Nat.add_assoc _ _ _))⟩)))
                  repeat (go_quiet (first | (go_at_call 53; (try simp only [i64_w]); (try simp only [← List.length_drop, ← List.length_take]); (with_reducible refine (spec_shSum.calls k1 _ _ ((l0.take ((wrap64 (a2 + x10_1)) : Int).toNat).drop (a2 : Int).toNat) t115 _ ?side1 ?side2 A18.out).mono ?_); (case side1 => repeat (first | exact HR114.out | (with_reducible refine Kd.C_alloc ?_ _) | (with_reducible refine Kd.C_drewN ?_ _) | (with_reducible refine Kd.C_drew ?_))); (case side2 => exact HC114.out); rintro e w' ⟨rfl, ⟨nd, rfl⟩⟩; (try first | exact ⟨rfl, _, World.drewN_drewN _ _ _⟩ | exact ⟨rfl, _, Eq.trans (World.drewN_drewN _ _ _) (congrArg (World.drewN _) (Nat.add_assoc _ _ _))⟩))); go_upto_region 8 with (first | (go_at_call 53; (try simp only [i64_w]); (try simp only [← List.length_drop, ← List.length_take]); (with_reducible refine (spec_shSum.calls k1 _ _ ((l0.take ((wrap64 (a2 + x10_1)) : Int).toNat).drop (a2 : Int).toNat) t115 _ ?side1 ?side2 A18.out).mono ?_); (case side1 => repeat (first | exact HR114.out | (with_reducible refine Kd.C_alloc ?_ _) | (with_reducible refine Kd.C_drewN ?_ _) | (with_reducible refine Kd.C_drew ?_))); (case side2 => exact HC114.out); rintro e w' ⟨rfl, ⟨nd, rfl⟩⟩; (try first | exact ⟨rfl, _, World.drewN_drewN _ _ _⟩ | exact ⟨rfl, _, Eq.trans (World.drewN_drewN _ _ _) (congrArg (World.drewN _) (Nat.add_assoc _ _ _))⟩))))
                  (try simp only [Act.put, List.setIfInBounds_toArray, List.set_cons_zero, List.set_cons_succ])
                  go_cut [53] (fun v53 wc => ∃ (kq : Nat) (x53_18 : Bool), v53 = .bool x53_18 ∧ Aside0 (spec_shLeast.j1 kq l0 l1 a2 a3 x9_1 x10_1 (wrap64 ((rd l1 a3) * t115)) x53_18 = some r) ∧ Aside0 (kq ≤ k1) ∧ Drawn0 w wc)
                  case first =>
                    have H := HC19.out
                    clear HC19
                    by_cases c21 : x9_1 ≥ 0
                    · rw [if_pos c21] at H
                      have c21b0 : decide (0 ≤ x9_1) = true := decide_eq_true c21
                      clear c21
                      (first | rw [c21b0] | (simp only [i64_w, i32_w]; rw [c21b0]) | skip)
                      have H' := Aside0.mk H
                      clear H
                      go_wp2
                      repeat (go_quiet (fail); try go_wp2)
                      go_meet
                      case rel => exact ⟨_, (decide ((wrap64 ((rd l1 a3) * t115)) ≥ x9_1)), (by first | rfl | (simp; done) | (simp [*]; done)), H', ⟨by have := HK1.out; first | omega | exact Nat.le_refl _⟩, by repeat (first | exact Drawn0.refl _ | apply Drawn0.step)⟩
                    · rw [if_neg c21] at H
                      have c21b0 : decide (0 ≤ x9_1) = false := decide_eq_false c21
                      clear c21
                      (first | rw [c21b0] | (simp only [i64_w, i32_w]; rw [c21b0]) | skip)
                      have H' := Aside0.mk H
                      clear H
                      go_wp2
                      repeat (go_quiet (fail); try go_wp2)
                      go_meet
                      case rel => exact ⟨_, (false), (by first | rfl | (simp; done) | (simp [*]; done)), H', ⟨by have := HK1.out; first | omega | exact Nat.le_refl _⟩, by repeat (first | exact Drawn0.refl _ | apply Drawn0.step)⟩
                  case rest =>
                    clear HC19
                    try clear c1
                    try clear p1
                    try clear q1
                    try clear hx1
                    try clear c2
                    try clear p2
                    try clear c3
                    try clear c5
                    try clear c5b0
                    try clear c5b1
                    try clear c6
                    try clear c6b0
                    try clear p6
                    try clear c7
                    try clear c7b0
                    try clear c8
                    try clear c8b0
                    try clear c8b1
                    try clear c9
                    try clear c9b0
                    try clear c9b1
                    try clear p11
                    try clear q11
                    try clear hx11
                    try clear c12
                    try clear c12b0
                    try clear c13
                    try clear c13b0
                    try clear c14
                    try clear c14b0
                    try clear c15
                    try clear c15b0
                    try clear c15b1
                    try clear c16
                    try clear c16b0
                    try clear c16b1
                    try clear c17
                    try clear c17b0
                    try clear c21
                    try clear c21b0
                    try clear hx110_0
                    try clear hx113_0
                    try clear p1
                    try clear p11
                    try clear p110
                    try clear p113
                    try clear p2
                    try clear p6
                    try clear q1
                    try clear q11
                    try clear q110
                    try clear q113
                    obtain ⟨kq, x53_18, rfl, HA, HJ18, ⟨mc18, rfl⟩⟩ := hcut
                    cases kq with
                    | zero => exact absurd HA.out (by simp [spec_shLeast.j1])
                    | succ kj18 =>
                      have H := HA.out
                      clear HA
                      simp only [spec_shLeast.j1] at H
                      by_cases c22 : x53_18 = true
                      · subst c22
                        have H1 : (some x9_1) = some r := by rw [if_pos rfl] at H; exact H
                        clear H
                        have H := H1
                        clear H1
                        obtain rfl := Option.some.inj H
                        go_wp2
                        repeat (go_quiet (fail); try go_wp2)
                        go_ret
                        exact ⟨by first | rfl | (simp; done) | (simp [*]; done), by repeat (first | exact Drawn0.refl _ | apply Drawn0.step)⟩
                      · replace c22 := Bool.eq_false_iff.mpr c22
                        subst c22
                        have H1 : ((spec_shLeast.f kj18 l0 l1 (wrap64 (a2 + x10_1)) (wrap64 (a3 + 1))).bind fun t116 => ((spec_l1Most.f (wrap64 ((rd l1 a3) * t115)) t116).bind fun t117 => (if x9_1 < 0 then (spec_shLeast.l0 kj18 l0 l1 a2 a3 t117 (wrap64 (x10_1 + 1))) else (if t117 < x9_1 then (spec_shLeast.l0 kj18 l0 l1 a2 a3 t117 (wrap64 (x10_1 + 1))) else (spec_shLeast.l0 kj18 l0 l1 a2 a3 x9_1 (wrap64 (x10_1 + 1))))))) = some r := by rw [if_neg (show ¬ (false = true) by decide)] at H; exact H
                        clear H
                        have H := H1
                        clear H1
                        replace H := Option.bind_eq_some_iff.mp H
                        obtain ⟨t116, A230, H⟩ := H
                        replace H : ((spec_l1Most.f (wrap64 ((rd l1 a3) * t115)) t116).bind fun t117 => (if x9_1 < 0 then (spec_shLeast.l0 kj18 l0 l1 a2 a3 t117 (wrap64 (x10_1 + 1))) else (if t117 < x9_1 then (spec_shLeast.l0 kj18 l0 l1 a2 a3 t117 (wrap64 (x10_1 + 1))) else (spec_shLeast.l0 kj18 l0 l1 a2 a3 x9_1 (wrap64 (x10_1 + 1)))))) = some r := H
                        have A23 := Aside0.mk A230
                        clear A230
                        replace H := Option.bind_eq_some_iff.mp H
                        obtain ⟨t117, A240, H⟩ := H
                        replace H : (if x9_1 < 0 then (spec_shLeast.l0 kj18 l0 l1 a2 a3 t117 (wrap64 (x10_1 + 1))) else (if t117 < x9_1 then (spec_shLeast.l0 kj18 l0 l1 a2 a3 t117 (wrap64 (x10_1 + 1))) else (spec_shLeast.l0 kj18 l0 l1 a2 a3 x9_1 (wrap64 (x10_1 + 1))))) = some r := H
                        have A24 := Aside0.mk A240
                        clear A240
                        by_cases c25 : x9_1 < 0
                        · rw [if_pos c25] at H
                          have c25b0 : decide (x9_1 < 0) = true := decide_eq_true c25
                          clear c25
                          have H' := Aside0.mk H
                          clear H
                          go_wp2_with (first | (go_at_call 32; (try simp only [i64_w]); (try simp only [← List.length_drop, ← List.length_take]); (with_reducible refine (ih kj18 (by have := HK1.out; have := HJ18.out; omega) _ _ l0 _ _ l1 (wrap64 (a2 + x10_1)) (wrap64 (a3 + 1)) t116 _ ?side1 ?side2 ?side3 ?side4 A23.out).mono ?_); (case side1 => repeat (first | exact HR0.out | (with_reducible refine Kd.C_alloc ?_ _) | (with_reducible refine Kd.C_drewN ?_ _) | (with_reducible refine Kd.C_drew ?_))); (case side2 => exact HC0.out); (case side3 => repeat (first | exact HR1.out | (with_reducible refine Kd.C_alloc ?_ _) | (with_reducible refine Kd.C_drewN ?_ _) | (with_reducible refine Kd.C_drew ?_))); (case side4 => exact HC1.out); rintro e w' ⟨rfl, ⟨nd, rfl⟩⟩; (try first | exact ⟨rfl, _, World.drewN_drewN _ _ _⟩ | exact ⟨rfl, _, Eq.trans (World.drewN_drewN _ _ _) (congrArg (World.drewN _) (Nat.add_assoc _ _ _))⟩)) | (go_at_call 54; (try simp only [i64_w]); (try simp only [← List.length_drop, ← List.length_take]); (with_reducible refine (spec_l1Most.calls (wrap64 ((rd l1 a3) * t115)) t116 t117 _ A24.out).mono ?_); rintro e w' ⟨rfl, ⟨nd, rfl⟩⟩; (try first | exact ⟨rfl, _, World.drewN_drewN _ _ _⟩ | exact ⟨rfl, _, Eq.trans (World.drewN_drewN _ _ _) (congrArg (World.drewN _) (Nat.add_assoc _ _ _))⟩)))
                          repeat (go_quiet (first | (go_at_call 32; (try simp only [i64_w]); (try simp only [← List.length_drop, ← List.length_take]); (with_reducible refine (ih kj18 (by have := HK1.out; have := HJ18.out; omega) _ _ l0 _ _ l1 (wrap64 (a2 + x10_1)) (wrap64 (a3 + 1)) t116 _ ?side1 ?side2 ?side3 ?side4 A23.out).mono ?_); (case side1 => repeat (first | exact HR0.out | (with_reducible refine Kd.C_alloc ?_ _) | (with_reducible refine Kd.C_drewN ?_ _) | (with_reducible refine Kd.C_drew ?_))); (case side2 => exact HC0.out); (case side3 => repeat (first | exact HR1.out | (with_reducible refine Kd.C_alloc ?_ _) | (with_reducible refine Kd.C_drewN ?_ _) | (with_reducible refine Kd.C_drew ?_))); (case side4 => exact HC1.out); rintro e w' ⟨rfl, ⟨nd, rfl⟩⟩; (try first | exact ⟨rfl, _, World.drewN_drewN _ _ _⟩ | exact ⟨rfl, _, Eq.trans (World.drewN_drewN _ _ _) (congrArg (World.drewN _) (Nat.add_assoc _ _ _))⟩)) | (go_at_call 54; (try simp only [i64_w]); (try simp only [← List.length_drop, ← List.length_take]); (with_reducible refine (spec_l1Most.calls (wrap64 ((rd l1 a3) * t115)) t116 t117 _ A24.out).mono ?_); rintro e w' ⟨rfl, ⟨nd, rfl⟩⟩; (try first | exact ⟨rfl, _, World.drewN_drewN _ _ _⟩ | exact ⟨rfl, _, Eq.trans (World.drewN_drewN _ _ _) (congrArg (World.drewN _) (Nat.add_assoc _ _ _))⟩))); try go_wp2_with (first | (go_at_call 32; (try simp only [i64_w]); (try simp only [← List.length_drop, ← List.length_take]); (with_reducible refine (ih kj18 (by have := HK1.out; have := HJ18.out; omega) _ _ l0 _ _ l1 (wrap64 (a2 + x10_1)) (wrap64 (a3 + 1)) t116 _ ?side1 ?side2 ?side3 ?side4 A23.out).mono ?_); (case side1 => repeat (first | exact HR0.out | (with_reducible refine Kd.C_alloc ?_ _) | (with_reducible refine Kd.C_drewN ?_ _) | (with_reducible refine Kd.C_drew ?_))); (case side2 => exact HC0.out); (case side3 => repeat (first | exact HR1.out | (with_reducible refine Kd.C_alloc ?_ _) | (with_reducible refine Kd.C_drewN ?_ _) | (with_reducible refine Kd.C_drew ?_))); (case side4 => exact HC1.out); rintro e w' ⟨rfl, ⟨nd, rfl⟩⟩; (try first | exact ⟨rfl, _, World.drewN_drewN _ _ _⟩ | exact ⟨rfl, _, Eq.trans (World.drewN_drewN _ _ _) (congrArg (World.drewN _) (Nat.add_assoc _ _ _))⟩)) | (go_at_call 54; (try simp only [i64_w]); (try simp only [← List.length_drop, ← List.length_take]); (with_reducible refine (spec_l1Most.calls (wrap64 ((rd l1 a3) * t115)) t116 t117 _ A24.out).mono ?_); rintro e w' ⟨rfl, ⟨nd, rfl⟩⟩; (try first | exact ⟨rfl, _, World.drewN_drewN _ _ _⟩ | exact ⟨rfl, _, Eq.trans (World.drewN_drewN _ _ _) (congrArg (World.drewN _) (Nat.add_assoc _ _ _))⟩))))
                          go_roundg kj18
                          case measure => have := HK1.out; have := HJ18.out; omega
                          case rel => exact ⟨(t117), (wrap64 (x10_1 + 1)), (by first | rfl | (simp; done) | (simp [*]; done)), (by first | rfl | (simp; done) | (simp [*]; done)), H', ⟨by have := HK1.out; have := HJ18.out; omega⟩, by repeat (first | exact Drawn0.refl _ | apply Drawn0.step)⟩
                        · rw [if_neg c25] at H
                          have c25b0 : decide (x9_1 < 0) = false := decide_eq_false c25
                          clear c25
                          by_cases c26 : t117 < x9_1
                          · rw [if_pos c26] at H
                            have c26b0 : decide (t117 < x9_1) = true := decide_eq_true c26
                            clear c26
                            have H' := Aside0.mk H
                            clear H
                            go_wp2_with (first | (go_at_call 32; (try simp only [i64_w]); (try simp only [← List.length_drop, ← List.length_take]); (with_reducible refine (ih kj18 (by have := HK1.out; have := HJ18.out; omega) _ _ l0 _ _ l1 (wrap64 (a2 + x10_1)) (wrap64 (a3 + 1)) t116 _ ?side1 ?side2 ?side3 ?side4 A23.out).mono ?_); (case side1 => repeat (first | exact HR0.out | (with_reducible refine Kd.C_alloc ?_ _) | (with_reducible refine Kd.C_drewN ?_ _) | (with_reducible refine Kd.C_drew ?_))); (case side2 => exact HC0.out); (case side3 => repeat (first | exact HR1.out | (with_reducible refine Kd.C_alloc ?_ _) | (with_reducible refine Kd.C_drewN ?_ _) | (with_reducible refine Kd.C_drew ?_))); (case side4 => exact HC1.out); rintro e w' ⟨rfl, ⟨nd, rfl⟩⟩; (try first | exact ⟨rfl, _, World.drewN_drewN _ _ _⟩ | exact ⟨rfl, _, Eq.trans (World.drewN_drewN _ _ _) (congrArg (World.drewN _) (Nat.add_assoc _ _ _))⟩)) | (go_at_call 54; (try simp only [i64_w]); (try simp only [← List.length_drop, ← List.length_take]); (with_reducible refine (spec_l1Most.calls (wrap64 ((rd l1 a3) * t115)) t116 t117 _ A24.out).mono ?_); rintro e w' ⟨rfl, ⟨nd, rfl⟩⟩; (try first | exact ⟨rfl, _, World.drewN_drewN _ _ _⟩ | exact ⟨rfl, _, Eq.trans (World.drewN_drewN _ _ _) (congrArg (World.drewN _) (Nat.add_assoc _ _ _))⟩)))
                            repeat (go_quiet (first | (go_at_call 32; (try simp only [i64_w]); (try simp only [← List.length_drop, ← List.length_take]); (with_reducible refine (ih kj18 (by have := HK1.out; have := HJ18.out; omega) _ _ l0 _ _ l1 (wrap64 (a2 + x10_1)) (wrap64 (a3 + 1)) t116 _ ?side1 ?side2 ?side3 ?side4 A23.out).mono ?_); (case side1 => repeat (first | exact HR0.out | (with_reducible refine Kd.C_alloc ?_ _) | (with_reducible refine Kd.C_drewN ?_ _) | (with_reducible refine Kd.C_drew ?_))); (case side2 => exact HC0.out); (case side3 => repeat (first | exact HR1.out | (with_reducible refine Kd.C_alloc ?_ _) | (with_reducible refine Kd.C_drewN ?_ _) | (with_reducible refine Kd.C_drew ?_))); (case side4 => exact HC1.out); rintro e w' ⟨rfl, ⟨nd, rfl⟩⟩; (try first | exact ⟨rfl, _, World.drewN_drewN _ _ _⟩ | exact ⟨rfl, _, Eq.trans (World.drewN_drewN _ _ _) (congrArg (World.drewN _) (Nat.add_assoc _ _ _))⟩)) | (go_at_call 54; (try simp only [i64_w]); (try simp only [← List.length_drop, ← List.length_take]); (with_reducible refine (spec_l1Most.calls (wrap64 ((rd l1 a3) * t115)) t116 t117 _ A24.out).mono ?_); rintro e w' ⟨rfl, ⟨nd, rfl⟩⟩; (try first | exact ⟨rfl, _, World.drewN_drewN _ _ _⟩ | exact ⟨rfl, _, Eq.trans (World.drewN_drewN _ _ _) (congrArg (World.drewN _) (Nat.add_assoc _ _ _))⟩))); try go_wp2_with (first | (go_at_call 32; (try simp only [i64_w]); (try simp only [← List.length_drop, ← List.length_take]); (with_reducible refine (ih kj18 (by have := HK1.out; have := HJ18.out; omega) _ _ l0 _ _ l1 (wrap64 (a2 + x10_1)) (wrap64 (a3 + 1)) t116 _ ?side1 ?side2 ?side3 ?side4 A23.out).mono ?_); (case side1 => repeat (first | exact HR0.out | (with_reducible refine Kd.C_alloc ?_ _) | (with_reducible refine Kd.C_drewN ?_ _) | (with_reducible refine Kd.C_drew ?_))); (case side2 => exact HC0.out); (case side3 => repeat (first | exact HR1.out | (with_reducible refine Kd.C_alloc ?_ _) | (with_reducible refine Kd.C_drewN ?_ _) | (with_reducible refine Kd.C_drew ?_))); (case side4 => exact HC1.out); rintro e w' ⟨rfl, ⟨nd, rfl⟩⟩; (try first | exact ⟨rfl, _, World.drewN_drewN _ _ _⟩ | exact ⟨rfl, _, Eq.trans (World.drewN_drewN _ _ _) (congrArg (World.drewN _) (Nat.add_assoc _ _ _))⟩)) | (go_at_call 54; (try simp only [i64_w]); (try simp only [← List.length_drop, ← List.length_take]); (with_reducible refine (spec_l1Most.calls (wrap64 ((rd l1 a3) * t115)) t116 t117 _ A24.out).mono ?_); rintro e w' ⟨rfl, ⟨nd, rfl⟩⟩; (try first | exact ⟨rfl, _, World.drewN_drewN _ _ _⟩ | exact ⟨rfl, _, Eq.trans (World.drewN_drewN _ _ _) (congrArg (World.drewN _) (Nat.add_assoc _ _ _))⟩))))
                            go_roundg kj18
                            case measure => have := HK1.out; have := HJ18.out; omega
                            case rel => exact ⟨(t117), (wrap64 (x10_1 + 1)), (by first | rfl | (simp; done) | (simp [*]; done)), (by first | rfl | (simp; done) | (simp [*]; done)), H', ⟨by have := HK1.out; have := HJ18.out; omega⟩, by repeat (first | exact Drawn0.refl _ | apply Drawn0.step)⟩
                          · rw [if_neg c26] at H
                            have c26b0 : decide (t117 < x9_1) = false := decide_eq_false c26
                            clear c26
                            have H' := Aside0.mk H
                            clear H
                            go_wp2_with (first | (go_at_call 32; (try simp only [i64_w]); (try simp only [← List.length_drop, ← List.length_take]); (with_reducible refine (ih kj18 (by have := HK1.out; have := HJ18.out; omega) _ _ l0 _ _ l1 (wrap64 (a2 + x10_1)) (wrap64 (a3 + 1)) t116 _ ?side1 ?side2 ?side3 ?side4 A23.out).mono ?_); (case side1 => repeat (first | exact HR0.out | (with_reducible refine Kd.C_alloc ?_ _) | (with_reducible refine Kd.C_drewN ?_ _) | (with_reducible refine Kd.C_drew ?_))); (case side2 => exact HC0.out); (case side3 => repeat (first | exact HR1.out | (with_reducible refine Kd.C_alloc ?_ _) | (with_reducible refine Kd.C_drewN ?_ _) | (with_reducible refine Kd.C_drew ?_))); (case side4 => exact HC1.out); rintro e w' ⟨rfl, ⟨nd, rfl⟩⟩; (try first | exact ⟨rfl, _, World.drewN_drewN _ _ _⟩ | exact ⟨rfl, _, Eq.trans (World.drewN_drewN _ _ _) (congrArg (World.drewN _) (Nat.add_assoc _ _ _))⟩)) | (go_at_call 54; (try simp only [i64_w]); (try simp only [← List.length_drop, ← List.length_take]); (with_reducible refine (spec_l1Most.calls (wrap64 ((rd l1 a3) * t115)) t116 t117 _ A24.out).mono ?_); rintro e w' ⟨rfl, ⟨nd, rfl⟩⟩; (try first | exact ⟨rfl, _, World.drewN_drewN _ _ _⟩ | exact ⟨rfl, _, Eq.trans (World.drewN_drewN _ _ _) (congrArg (World.drewN _) (Nat.add_assoc _ _ _))⟩)))
                            repeat (go_quiet (first | (go_at_call 32; (try simp only [i64_w]); (try simp only [← List.length_drop, ← List.length_take]); (with_reducible refine (ih kj18 (by have := HK1.out; have := HJ18.out; omega) _ _ l0 _ _ l1 (wrap64 (a2 + x10_1)) (wrap64 (a3 + 1)) t116 _ ?side1 ?side2 ?side3 ?side4 A23.out).mono ?_); (case side1 => repeat (first | exact HR0.out | (with_reducible refine Kd.C_alloc ?_ _) | (with_reducible refine Kd.C_drewN ?_ _) | (with_reducible refine Kd.C_drew ?_))); (case side2 => exact HC0.out); (case side3 => repeat (first | exact HR1.out | (with_reducible refine Kd.C_alloc ?_ _) | (with_reducible refine Kd.C_drewN ?_ _) | (with_reducible refine Kd.C_drew ?_))); (case side4 => exact HC1.out); rintro e w' ⟨rfl, ⟨nd, rfl⟩⟩; (try first | exact ⟨rfl, _, World.drewN_drewN _ _ _⟩ | exact ⟨rfl, _, Eq.trans (World.drewN_drewN _ _ _) (congrArg (World.drewN _) (Nat.add_assoc _ _ _))⟩)) | (go_at_call 54; (try simp only [i64_w]); (try simp only [← List.length_drop, ← List.length_take]); (with_reducible refine (spec_l1Most.calls (wrap64 ((rd l1 a3) * t115)) t116 t117 _ A24.out).mono ?_); rintro e w' ⟨rfl, ⟨nd, rfl⟩⟩; (try first | exact ⟨rfl, _, World.drewN_drewN _ _ _⟩ | exact ⟨rfl, _, Eq.trans (World.drewN_drewN _ _ _) (congrArg (World.drewN _) (Nat.add_assoc _ _ _))⟩))); try go_wp2_with (first | (go_at_call 32; (try simp only [i64_w]); (try simp only [← List.length_drop, ← List.length_take]); (with_reducible refine (ih kj18 (by have := HK1.out; have := HJ18.out; omega) _ _ l0 _ _ l1 (wrap64 (a2 + x10_1)) (wrap64 (a3 + 1)) t116 _ ?side1 ?side2 ?side3 ?side4 A23.out).mono ?_); (case side1 => repeat (first | exact HR0.out | (with_reducible refine Kd.C_alloc ?_ _) | (with_reducible refine Kd.C_drewN ?_ _) | (with_reducible refine Kd.C_drew ?_))); (case side2 => exact HC0.out); (case side3 => repeat (first | exact HR1.out | (with_reducible refine Kd.C_alloc ?_ _) | (with_reducible refine Kd.C_drewN ?_ _) | (with_reducible refine Kd.C_drew ?_))); (case side4 => exact HC1.out); rintro e w' ⟨rfl, ⟨nd, rfl⟩⟩; (try first | exact ⟨rfl, _, World.drewN_drewN _ _ _⟩ | exact ⟨rfl, _, Eq.trans (World.drewN_drewN _ _ _) (congrArg (World.drewN _) (Nat.add_assoc _ _ _))⟩)) | (go_at_call 54; (try simp only [i64_w]); (try simp only [← List.length_drop, ← List.length_take]); (with_reducible refine (spec_l1Most.calls (wrap64 ((rd l1 a3) * t115)) t116 t117 _ A24.out).mono ?_); rintro e w' ⟨rfl, ⟨nd, rfl⟩⟩; (try first | exact ⟨rfl, _, World.drewN_drewN _ _ _⟩ | exact ⟨rfl, _, Eq.trans (World.drewN_drewN _ _ _) (congrArg (World.drewN _) (Nat.add_assoc _ _ _))⟩))))
                            go_roundg kj18
                            case measure => have := HK1.out; have := HJ18.out; omega
                            case rel => exact ⟨(x9_1), (wrap64 (x10_1 + 1)), (by first | rfl | (simp; done) | (simp [*]; done)), (by first | rfl | (simp; done) | (simp [*]; done)), H', ⟨by have := HK1.out; have := HJ18.out; omega⟩, by repeat (first | exact Drawn0.refl _ | apply Drawn0.step)⟩
                · rw [if_neg c16] at H
                  exact absurd H (by simp)
              · rw [if_neg c15] at H
                exact absurd H (by simp)
            · rw [if_neg c14] at H
              exact absurd H (by simp)
          · rw [if_neg c13] at H
            exact absurd H (by simp)
        · rw [if_neg c12] at H
          have c12b0 : decide ((wrap64 (a2 + x10_1)) ≤ (l0.length : Int)) = false := decide_eq_false c12
          clear c12
          obtain rfl := Option.some.inj H
          go_wp2
          repeat (go_quiet (fail); try go_wp2)
          go_ret
          exact ⟨by first | rfl | (simp; done) | (simp [*]; done), by repeat (first | exact Drawn0.refl _ | apply Drawn0.step)⟩

end Go.Proofs.Ytcnancjkajbldaa.P
