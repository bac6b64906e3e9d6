-- Printed by wip/pp.py of this claim's session (the kit's print over functions that are given by hand). Not trusted: Lean checks it.
import Derived.Test.YtcnancjkajbldaaPx0
import Derived.Test.YtcnancjkajbldaaPx1
import Derived.Test.YtcnancjkajbldaaPx3
import Derived.Test.YtcnancjkajbldaaPx4
import Derived.Test.YtcnancjkajbldaaPx5
namespace Go.Proofs.Ytcnancjkajbldaa.P
open Go.RowKit Go.Proofs.YtcnancjkajbldaaW.PrintWords Go.Proofs.YtcnancjkajbldaaW.PrintLast Go.Proofs.YtcnancjkajbldaaW.PrintMore
attribute [local go_sem] max2_int min2_int max_two min_two max_three min_three max_four min_four   -- for this text's walks alone
set_option linter.unusedVariables false
set_option linter.unusedSimpArgs false

/-! ### spec_shPainters: function 36 -/
def spec_shPainters.f (k : Nat) (l0 : List Int) (a1 : Int) : Option (Bool) := (spec_shWidths.f k l0).bind fun t262 => (if t262 = true then ((spec_l1In.f a1 1 5).bind fun t263 => (some t263)) else (some false))
theorem spec_shPainters.mono : ∀ a0 a1 k, LeO (spec_shPainters.f k a0 a1) (spec_shPainters.f (k + 1) a0 a1) := by
  intro a0 a1 k
  unfold spec_shPainters.f
  repeat' first
      | (with_reducible exact spec_shWidths.mono _ _)
      | (with_reducible exact LeO.refl _)
      | (with_reducible exact LeO.none _)
      | (with_reducible refine LeO.ite ?_ ?_)
      | (with_reducible refine LeO.bind ?_ (fun _ => ?_))
      | exact spec_shWidths.mono _ _
      | exact LeO.none _
      | refine LeO.ite ?_ ?_
      | refine LeO.bind ?_ (fun _ => ?_)
set_option maxHeartbeats 8000000 in
set_option maxRecDepth 100000 in
theorem spec_shPainters.calls (k : Nat) (A0 : Option Addr) (c0 : Nat) (l0 : List Int) (a1 : Int) (r : Bool) (w : World) (hr0 : Kd.C (Kd.int .i64) w A0 l0.length l0) (hc0 : l0.length ≤ c0) (h : spec_shPainters.f k l0 a1 = some r) :
    Calls Try.prog 36 #[.slice A0 l0.length c0, .int .i64 a1] w fun e w' => e = .returned (.bool r) ∧ Drawn0 w w' := by
  have HR0 := Aside0.mk hr0
  have HC0 := Aside0.mk hc0
  clear hr0 hc0
  have H : ((spec_shWidths.f k l0).bind fun t262 => (if t262 = true then ((spec_l1In.f a1 1 5).bind fun t263 => (some t263)) else (some false))) = some r := h
  clear h
  replace H := Option.bind_eq_some_iff.mp H
  obtain ⟨t262, A30, H⟩ := H
  replace H : (if t262 = true then ((spec_l1In.f a1 1 5).bind fun t263 => (some t263)) else (some false)) = some r := H
  have A3 := Aside0.mk A30
  clear A30
  by_cases c4 : t262 = true
  · subst c4
    have H1 : ((spec_l1In.f a1 1 5).bind fun t263 => (some t263)) = some r := by rw [if_pos rfl] at H; exact H
    clear H
    have H := H1
    clear H1
    replace H := Option.bind_eq_some_iff.mp H
    obtain ⟨t263, A50, H⟩ := H
    replace H : (some t263) = some r := H
    have A5 := Aside0.mk A50
    clear A50
    obtain rfl := Option.some.inj H
    go_enter Try.func36, Try.ntmps36
    go_wp2_with (first | ((with_reducible refine gate_callee (f := 51) rfl ?_); refine goesL_ (some 6) rfl rfl Try.func51 (by kernel_rfl) rfl #[.slice A0 l0.length c0] rfl (by (try simp only [List.map_toArray, List.map_cons, List.map_nil]); first | done | rfl | (simp only [List.length_drop, List.length_take]; rfl)) ?_; (with_reducible refine (spec_shWidths.calls k _ _ l0 true _ ?side1 ?side2 A3.out).mono ?_); (case side1 => repeat (first | exact HR0.out | (with_reducible refine Kd.C_alloc ?_ _) | (with_reducible refine Kd.C_drewN ?_ _) | (with_reducible refine Kd.C_drew ?_))); (case side2 => exact HC0.out); rintro e w' ⟨rfl, ⟨nd, rfl⟩⟩; refine ⟨_, rfl, ?_⟩) | (go_at_call 60; (with_reducible refine (spec_l1In.calls a1 1 5 t263 _ A5.out).mono ?_); rintro e w' ⟨rfl, ⟨nd, rfl⟩⟩))
    go_ret
    exact ⟨by first | rfl | (simp; done) | (simp [*]; done), by repeat (first | exact Drawn0.refl _ | apply Drawn0.step)⟩
  · replace c4 := Bool.eq_false_iff.mpr c4
    subst c4
    have H1 : (some false) = some r := by rw [if_neg (show ¬ (false = true) by decide)] at H; exact H
    clear H
    have H := H1
    clear H1
    obtain rfl := Option.some.inj H
    go_enter Try.func36, Try.ntmps36
    go_wp2_with (first | ((with_reducible refine gate_callee (f := 51) rfl ?_); refine goesL_ (some 6) rfl rfl Try.func51 (by kernel_rfl) rfl #[.slice A0 l0.length c0] rfl (by (try simp only [List.map_toArray, List.map_cons, List.map_nil]); first | done | rfl | (simp only [List.length_drop, List.length_take]; rfl)) ?_; (with_reducible refine (spec_shWidths.calls k _ _ l0 false _ ?side1 ?side2 A3.out).mono ?_); (case side1 => repeat (first | exact HR0.out | (with_reducible refine Kd.C_alloc ?_ _) | (with_reducible refine Kd.C_drewN ?_ _) | (with_reducible refine Kd.C_drew ?_))); (case side2 => exact HC0.out); rintro e w' ⟨rfl, ⟨nd, rfl⟩⟩; refine ⟨_, rfl, ?_⟩))
    go_ret
    exact ⟨by first | rfl | (simp; done) | (simp [*]; done), by repeat (first | exact Drawn0.refl _ | apply Drawn0.step)⟩

/-! ### spec_shSame: function 37 -/
def spec_shSame.l0 : Nat → Int → List Int → Option (List Int)
  | 0, _, _ => none
  | k + 1, x0, x3 => if x0 > 0 then (if x3.length < 17592186044416 then (spec_shSame.l0 k (wrap64 (x0 - 1)) (x3 ++ [1])) else (none)) else (some x3)
def spec_shSame.f (k : Nat) (a0 : Int) : Option (List Int) := spec_shSame.l0 k a0 ([] : List Int)
theorem spec_shSame.mono_l : ∀ k, (∀ y0 y1, LeO (spec_shSame.l0 k y0 y1) (spec_shSame.l0 (k + 1) y0 y1))
  | 0 => fun _ _ r h => by simp [spec_shSame.l0] at h
  | k + 1 => by
    have ih0 := spec_shSame.mono_l k
    · intro y0 y1
      unfold spec_shSame.l0
      repeat' first
      | (with_reducible exact ih0 _ _)
      | (with_reducible exact LeO.refl _)
      | (with_reducible exact LeO.none _)
      | (with_reducible refine LeO.ite ?_ ?_)
      | (with_reducible refine LeO.bind ?_ (fun _ => ?_))
      | exact ih0 _ _
      | exact LeO.none _
      | refine LeO.ite ?_ ?_
      | refine LeO.bind ?_ (fun _ => ?_)
theorem spec_shSame.mono : ∀ a0 k, LeO (spec_shSame.f k a0) (spec_shSame.f (k + 1) a0) := by
  intro a0 k
  have ih0 := spec_shSame.mono_l k
  unfold spec_shSame.f
  repeat' first
      | (with_reducible exact ih0 _ _)
      | (with_reducible exact LeO.refl _)
      | (with_reducible exact LeO.none _)
      | (with_reducible refine LeO.ite ?_ ?_)
      | (with_reducible refine LeO.bind ?_ (fun _ => ?_))
      | exact ih0 _ _
      | exact LeO.none _
      | refine LeO.ite ?_ ?_
      | refine LeO.bind ?_ (fun _ => ?_)
set_option maxHeartbeats 8000000 in
set_option maxRecDepth 100000 in
theorem spec_shSame.calls (k : Nat) (a0 : Int) (r : List Int) (w : World) (h : spec_shSame.f k a0 = some r) :
    Calls Try.prog 37 #[.int .i64 a0] w fun e w' => ∃ v0_ : Value, e = .returned (v0_) ∧ Kd.R (Kd.int .i64) 3 w' w.heap.size (fun _ => True) v0_ r ∧ Below w.heap.size w w' := by
  have HB := Aside0.mk (Below.refl w.heap.size w)
  have H : (spec_shSame.l0 k a0 ([] : List Int)) = some r := h
  clear h
  have H' := Aside0.mk H
  clear H
  go_enter Try.func37, Try.ntmps37
  go_wp2
  go_loopg [0, 3] k (fun kq v0 v3 w' => ∃ (x0_1 : Int) (x3_1 : List Int), v0 = .int .i64 x0_1 ∧ Aside0 (spec_shSame.l0 kq x0_1 x3_1 = some r) ∧ Aside0 (kq ≤ k) ∧ Aside0 (Kd.R (Kd.int .i64) 3 w' w.heap.size (fun _ => True) v3 x3_1) ∧ Aside0 (Below w.heap.size w w'))
  case atStart => exact ⟨(a0), (([] : List Int)), (by first | rfl | (simp; done) | (simp [*]; done)), H', ⟨Nat.le_refl _⟩, ⟨by first | exact Kd.R_nil _ _ _ _ _ | exact Kd.N_nil _ _ _ _ _ | exact Kd.V_nil _ _ _ _ _ | exact Kd.Q_nil _ _ _ _ _ | exact Kd.S_nil _ _ _ _ _⟩, ⟨by repeat (first | (with_reducible first | exact HB.out | apply below_alloc | apply pw_below_drewN | apply below_drew1) | exact HB.out)⟩⟩
  case round =>
    clear H'
    obtain ⟨x0_1, x3_1, rfl, HA, HK1, HO_3, HB⟩ := hrel
    cases gk with
    | zero => exact absurd HA.out (by simp [spec_shSame.l0])
    | succ k1 =>
      have H := HA.out
      clear HA
      simp only [spec_shSame.l0] at H
      by_cases c2 : x0_1 > 0
      · rw [if_pos c2] at H
        have c2b0 : decide (0 < x0_1) = true := decide_eq_true c2
        clear c2
        by_cases c3 : x3_1.length < 17592186044416
        · rw [if_pos c3] at H
          have LMc3 := Aside0.mk c3
          clear c3
          obtain ⟨y264, hy264⟩ : ∃ y_ : List Int, y_ = (x3_1 ++ [1]) := ⟨_, rfl⟩
          replace H : (spec_shSame.l0 k1 (wrap64 (x0_1 - 1)) y264) = some r := by first | (rw [hy264]; with_reducible exact H) | (have H2_ := (Option.bind_some _ _).symm.trans H; rw [hy264]; with_reducible exact H2_) | (have H2_ := (Option.bind_some _ _).symm.trans H; with_reducible exact H2_) | with_reducible exact H | (rw [hy264]; exact H) | exact H
          have Ny264 := Aside0.mk hy264
          clear hy264
          have H' := Aside0.mk H
          clear H
          go_wp2_with (first | ((with_reducible refine gate_builtin (b := .append) (xs := #[.tmp 8, .tmp 9]) rfl ?_); at_builtin; refine Kd.R_append (Kd.int .i64) (w0 := w) w.heap.size rfl (.tmp 8) (.tmp 9) 22 3 (.int .i64 0) 8 rfl Try.underlying22 info3 rfl (by decide) (by omega) u3 x3_1 1 [.int .i64 1] (fun _ => True) (fun _ => False) rfl rfl ?aP (fun _ hk => hk.elim) ?aF ?aO ?aB ?aS ?aL ?_; (case aP => exact rfl); (case aB => exact (by repeat (first | (with_reducible first | exact HB.out | apply below_alloc | apply pw_below_drewN | apply below_drew1) | exact HB.out))); (case aF => exact (fun _ _ => trivial)); (case aO => exact (by (with_reducible repeat (first | apply Kd.R_alloc | apply Kd.R_drewN | apply Kd.R_drew)); exact HO_3.out)); (case aS => exact (below_size (by repeat (first | (with_reducible first | exact HB.out | apply below_alloc | apply pw_below_drewN | apply below_drew1) | exact HB.out)))); (case aL => have := LMc3.out; omega); intro v265 w4 ho hb hg hat; rw [← Ny264.out] at ho; have n0_ := Aside0.mk (hb); have n1_ := Aside0.mk (ho); clear HB; clear HO_3; have HB := n0_; have HO266 := n1_; clear n0_ n1_; clear ho hb hg hat))
          go_roundg k1
          case measure => have := HK1.out; omega
          case rel => exact ⟨(wrap64 (x0_1 - 1)), (y264), (by first | rfl | (simp; done) | (simp [*]; done)), H', ⟨by have := HK1.out; omega⟩, ⟨by (with_reducible repeat (first | apply Kd.R_alloc | apply Kd.R_drewN | apply Kd.R_drew)); exact HO266.out⟩, ⟨by repeat (first | (with_reducible first | exact HB.out | apply below_alloc | apply pw_below_drewN | apply below_drew1) | exact HB.out)⟩⟩
        · rw [if_neg c3] at H
          exact absurd H (by simp)
      · rw [if_neg c2] at H
        have c2b0 : decide (0 < x0_1) = false := decide_eq_false c2
        clear c2
        obtain rfl := Option.some.inj H
        go_wp2
        go_ret
        exact ⟨_, by first | rfl | (simp [errW_none, errW_some] <;> rfl) | (simp [*, errW_none, errW_some] <;> rfl), by (with_reducible repeat (first | apply Kd.R_alloc | apply Kd.R_drewN | apply Kd.R_drew)); exact HO_3.out, by repeat (first | (with_reducible first | exact HB.out | apply below_alloc | apply pw_below_drewN | apply below_drew1) | exact HB.out)⟩

/-! ### spec_LeastWork: function 19 -/
def spec_LeastWork.f (k : Nat) (l0 : List Int) (a1 : Int) : Option (Int × Bool) := (spec_shPainters.f k l0 a1).bind fun t267 => (if t267 = true then ((spec_shSame.f k a1).bind fun t268 => ((spec_shLeast.f k l0 t268 0 0).bind fun t271 => (some (t271, true)))) else (some (0, false)))
theorem spec_LeastWork.mono : ∀ a0 a1 k, LeO (spec_LeastWork.f k a0 a1) (spec_LeastWork.f (k + 1) a0 a1) := by
  intro a0 a1 k
  unfold spec_LeastWork.f
  repeat' first
      | (with_reducible exact spec_shLeast.mono _ _ _ _ _)
      | (with_reducible exact spec_shPainters.mono _ _ _)
      | (with_reducible exact spec_shSame.mono _ _)
      | (with_reducible exact LeO.refl _)
      | (with_reducible exact LeO.none _)
      | (with_reducible refine LeO.ite ?_ ?_)
      | (with_reducible refine LeO.bind ?_ (fun _ => ?_))
      | exact spec_shLeast.mono _ _ _ _ _
      | exact spec_shPainters.mono _ _ _
      | exact spec_shSame.mono _ _
      | exact LeO.none _
      | refine LeO.ite ?_ ?_
      | refine LeO.bind ?_ (fun _ => ?_)
set_option maxHeartbeats 8000000 in
set_option maxRecDepth 100000 in
theorem spec_LeastWork.calls (k : Nat) (A0 : Option Addr) (c0 : Nat) (l0 : List Int) (a1 : Int) (r1 : Int) (r2 : Bool) (w : World) (hr0 : Kd.C (Kd.int .i64) w A0 l0.length l0) (hc0 : l0.length ≤ c0) (h : spec_LeastWork.f k l0 a1 = some (r1, r2)) :
    Calls Try.prog 19 #[.slice A0 l0.length c0, .int .i64 a1] w fun e w' => e = .returned (.tuple #[.int .i64 r1, .bool r2]) ∧ Below w.heap.size w w' := by
  have HR0 := Aside0.mk hr0
  have HC0 := Aside0.mk hc0
  clear hr0 hc0
  have HB := Aside0.mk (Below.refl w.heap.size w)
  have H : ((spec_shPainters.f k l0 a1).bind fun t267 => (if t267 = true then ((spec_shSame.f k a1).bind fun t268 => ((spec_shLeast.f k l0 t268 0 0).bind fun t271 => (some (t271, true)))) else (some (0, false)))) = some (r1, r2) := h
  clear h
  replace H := Option.bind_eq_some_iff.mp H
  obtain ⟨t267, A30, H⟩ := H
  replace H : (if t267 = true then ((spec_shSame.f k a1).bind fun t268 => ((spec_shLeast.f k l0 t268 0 0).bind fun t271 => (some (t271, true)))) else (some (0, false))) = some (r1, r2) := H
  have A3 := Aside0.mk A30
  clear A30
  by_cases c4 : t267 = true
  · subst c4
    have H1 : ((spec_shSame.f k a1).bind fun t268 => ((spec_shLeast.f k l0 t268 0 0).bind fun t271 => (some (t271, true)))) = some (r1, r2) := by rw [if_pos rfl] at H; exact H
    clear H
    have H := H1
    clear H1
    replace H := Option.bind_eq_some_iff.mp H
    obtain ⟨t268, A50, H⟩ := H
    replace H : ((spec_shLeast.f k l0 t268 0 0).bind fun t271 => (some (t271, true))) = some (r1, r2) := H
    have A5 := Aside0.mk A50
    clear A50
    replace H := Option.bind_eq_some_iff.mp H
    obtain ⟨t271, A60, H⟩ := H
    replace H : (some (t271, true)) = some (r1, r2) := H
    have A6 := Aside0.mk A60
    clear A60
    simp only [Option.some.injEq, Prod.mk.injEq] at H
    obtain ⟨rfl, rfl⟩ := H
    go_enter Try.func19, Try.ntmps19
    go_wp2_with (first | ((with_reducible refine gate_callee (f := 36) rfl ?_); refine goesL_ (some 8) rfl rfl Try.func36 (by kernel_rfl) rfl #[.slice A0 l0.length c0, .int .i64 a1] rfl (by (try simp only [List.map_toArray, List.map_cons, List.map_nil]); first | done | rfl | (simp only [List.length_drop, List.length_take]; rfl)) ?_; (with_reducible refine (spec_shPainters.calls k _ _ l0 a1 true _ ?side1 ?side2 A3.out).mono ?_); (case side1 => repeat (first | exact HR0.out | (with_reducible refine Kd.C_alloc ?_ _) | (with_reducible refine Kd.C_drewN ?_ _) | (with_reducible refine Kd.C_drew ?_))); (case side2 => exact HC0.out); rintro e w' ⟨rfl, ⟨nd, rfl⟩⟩; refine ⟨_, rfl, ?_⟩) | ((with_reducible refine gate_callee (f := 37) rfl ?_); refine goesL_ (some 12) rfl rfl Try.func37 (by kernel_rfl) rfl #[.int .i64 a1] rfl (by (try simp only [List.map_toArray, List.map_cons, List.map_nil]); first | done | rfl | (simp only [List.length_drop, List.length_take]; rfl)) ?_; (with_reducible refine (spec_shSame.calls k a1 t268 _ A5.out).mono ?_); rintro e w7 ⟨v269, rfl, ho0, hb⟩; refine ⟨_, rfl, ?_⟩; have n0_ := Aside0.mk (Kd.R_lower ho0 (below_size (by repeat (first | (with_reducible first | exact HB.out | apply below_alloc | apply pw_below_drewN | apply below_drew1) | exact HB.out)))); have n1_ := Aside0.mk (below_step (by repeat (first | (with_reducible first | exact HB.out | apply below_alloc | apply pw_below_drewN | apply below_drew1) | exact HB.out)) hb); clear HB; have HO270 := n0_; have HB := n1_; clear n0_ n1_; (try clear hb); (try clear hb2); (try clear hk); (try clear hi); (try clear ho0); obtain ⟨Ao8, co8, eo8⟩ := Kd.R_slice HO270.out; subst eo8) | ((with_reducible refine gate_callee (f := 32) rfl ?_); refine goesL_ (some 13) rfl rfl Try.func32 (by kernel_rfl) rfl #[.slice A0 l0.length c0, .slice Ao8 t268.length co8, .int .i64 0, .int .i64 0] rfl (by (try simp only [List.map_toArray, List.map_cons, List.map_nil]); first | done | rfl | (simp only [List.length_drop, List.length_take]; rfl)) ?_; (with_reducible refine (spec_shLeast.calls k _ _ l0 _ _ t268 0 0 t271 _ ?side1 ?side2 ?side3 ?side4 A6.out).mono ?_); (case side1 => repeat (first | exact (Kd.C_below HR0.out HB.out) | (with_reducible refine Kd.C_alloc ?_ _) | (with_reducible refine Kd.C_drewN ?_ _) | (with_reducible refine Kd.C_drew ?_))); (case side2 => exact HC0.out); (case side3 => repeat (first | exact (Kd.R_reads' HO270.out).2.2 | (with_reducible refine Kd.C_alloc ?_ _) | (with_reducible refine Kd.C_drewN ?_ _) | (with_reducible refine Kd.C_drew ?_))); (case side4 => exact (Kd.R_reads' HO270.out).2.1); rintro e w' ⟨rfl, ⟨nd, rfl⟩⟩; refine ⟨_, rfl, ?_⟩))
    go_ret2
    exact ⟨by first | rfl | (simp [errW_none, errW_some] <;> rfl) | (simp [*, errW_none, errW_some] <;> rfl), by repeat (first | (with_reducible first | exact HB.out | apply below_alloc | apply pw_below_drewN | apply below_drew1) | exact HB.out)⟩
  · replace c4 := Bool.eq_false_iff.mpr c4
    subst c4
    have H1 : (some (0, false)) = some (r1, r2) := by rw [if_neg (show ¬ (false = true) by decide)] at H; exact H
    clear H
    have H := H1
    clear H1
    simp only [Option.some.injEq, Prod.mk.injEq] at H
    obtain ⟨rfl, rfl⟩ := H
    go_enter Try.func19, Try.ntmps19
    go_wp2_with (first | ((with_reducible refine gate_callee (f := 36) rfl ?_); refine goesL_ (some 8) rfl rfl Try.func36 (by kernel_rfl) rfl #[.slice A0 l0.length c0, .int .i64 a1] rfl (by (try simp only [List.map_toArray, List.map_cons, List.map_nil]); first | done | rfl | (simp only [List.length_drop, List.length_take]; rfl)) ?_; (with_reducible refine (spec_shPainters.calls k _ _ l0 a1 false _ ?side1 ?side2 A3.out).mono ?_); (case side1 => repeat (first | exact HR0.out | (with_reducible refine Kd.C_alloc ?_ _) | (with_reducible refine Kd.C_drewN ?_ _) | (with_reducible refine Kd.C_drew ?_))); (case side2 => exact HC0.out); rintro e w' ⟨rfl, ⟨nd, rfl⟩⟩; refine ⟨_, rfl, ?_⟩))
    go_ret2
    exact ⟨by first | rfl | (simp [errW_none, errW_some] <;> rfl) | (simp [*, errW_none, errW_some] <;> rfl), by repeat (first | (with_reducible first | exact HB.out | apply below_alloc | apply pw_below_drewN | apply below_drew1) | exact HB.out)⟩

/-! ### impl_arePainted: function 38 -/
def impl_arePainted.f (l0 : List Int) (a1 : Int) : Option (Bool) := (impl_AreWidths.f l0).bind fun t272 => (if t272 = true then ((impl_within.f a1 1 5).bind fun t273 => (some t273)) else (some false))
set_option maxHeartbeats 8000000 in
set_option maxRecDepth 100000 in
theorem impl_arePainted.calls (A0 : Option Addr) (c0 : Nat) (l0 : List Int) (a1 : Int) (r : Bool) (w : World) (hr0 : Kd.C (Kd.int .i64) w A0 l0.length l0) (hc0 : l0.length ≤ c0) (h : impl_arePainted.f l0 a1 = some r) :
    Calls Try.prog 38 #[.slice A0 l0.length c0, .int .i64 a1] w fun e w' => e = .returned (.bool r) ∧ Below w.heap.size w w' := by
  have HR0 := Aside0.mk hr0
  have HC0 := Aside0.mk hc0
  clear hr0 hc0
  have HB := Aside0.mk (Below.refl w.heap.size w)
  have H : ((impl_AreWidths.f l0).bind fun t272 => (if t272 = true then ((impl_within.f a1 1 5).bind fun t273 => (some t273)) else (some false))) = some r := h
  clear h
  replace H := Option.bind_eq_some_iff.mp H
  obtain ⟨t272, A30, H⟩ := H
  replace H : (if t272 = true then ((impl_within.f a1 1 5).bind fun t273 => (some t273)) else (some false)) = some r := H
  have A3 := Aside0.mk A30
  clear A30
  by_cases c4 : t272 = true
  · subst c4
    have H1 : ((impl_within.f a1 1 5).bind fun t273 => (some t273)) = some r := by rw [if_pos rfl] at H; exact H
    clear H
    have H := H1
    clear H1
    replace H := Option.bind_eq_some_iff.mp H
    obtain ⟨t273, A50, H⟩ := H
    replace H : (some t273) = some r := H
    have A5 := Aside0.mk A50
    clear A50
    obtain rfl := Option.some.inj H
    go_enter Try.func38, Try.ntmps38
    go_wp2_with (first | ((with_reducible refine gate_callee (f := 55) rfl ?_); refine goesL_ (some 6) rfl rfl Try.func55 (by kernel_rfl) rfl #[.slice A0 l0.length c0] rfl (by (try simp only [List.map_toArray, List.map_cons, List.map_nil]); first | done | rfl | (simp only [List.length_drop, List.length_take]; rfl)) ?_; (with_reducible refine (impl_AreWidths.calls _ _ l0 true _ ?side1 ?side2 A3.out).mono ?_); (case side1 => repeat (first | exact HR0.out | (with_reducible refine Kd.C_alloc ?_ _) | (with_reducible refine Kd.C_drewN ?_ _) | (with_reducible refine Kd.C_drew ?_))); (case side2 => exact HC0.out); rintro e w6 ⟨rfl, hb⟩; refine ⟨_, rfl, ?_⟩; have n0_ := Aside0.mk (below_step (by repeat (first | (with_reducible first | exact HB.out | apply below_alloc | apply pw_below_drewN | apply below_drew1) | exact HB.out)) hb); clear HB; have HB := n0_; clear n0_; (try clear hb); (try clear hb2); (try clear hk); (try clear hi)) | (go_at_call 61; (with_reducible refine (impl_within.calls a1 1 5 t273 _ A5.out).mono ?_); rintro e w' ⟨rfl, ⟨nd, rfl⟩⟩))
    go_ret
    exact ⟨by first | rfl | (simp [errW_none, errW_some] <;> rfl) | (simp [*, errW_none, errW_some] <;> rfl), by repeat (first | (with_reducible first | exact HB.out | apply below_alloc | apply pw_below_drewN | apply below_drew1) | exact HB.out)⟩
  · replace c4 := Bool.eq_false_iff.mpr c4
    subst c4
    have H1 : (some false) = some r := by rw [if_neg (show ¬ (false = true) by decide)] at H; exact H
    clear H
    have H := H1
    clear H1
    obtain rfl := Option.some.inj H
    go_enter Try.func38, Try.ntmps38
    go_wp2_with (first | ((with_reducible refine gate_callee (f := 55) rfl ?_); refine goesL_ (some 6) rfl rfl Try.func55 (by kernel_rfl) rfl #[.slice A0 l0.length c0] rfl (by (try simp only [List.map_toArray, List.map_cons, List.map_nil]); first | done | rfl | (simp only [List.length_drop, List.length_take]; rfl)) ?_; (with_reducible refine (impl_AreWidths.calls _ _ l0 false _ ?side1 ?side2 A3.out).mono ?_); (case side1 => repeat (first | exact HR0.out | (with_reducible refine Kd.C_alloc ?_ _) | (with_reducible refine Kd.C_drewN ?_ _) | (with_reducible refine Kd.C_drew ?_))); (case side2 => exact HC0.out); rintro e w7 ⟨rfl, hb⟩; refine ⟨_, rfl, ?_⟩; have n0_ := Aside0.mk (below_step (by repeat (first | (with_reducible first | exact HB.out | apply below_alloc | apply pw_below_drewN | apply below_drew1) | exact HB.out)) hb); clear HB; have HB := n0_; clear n0_; (try clear hb); (try clear hb2); (try clear hk); (try clear hi)))
    go_ret
    exact ⟨by first | rfl | (simp [errW_none, errW_some] <;> rfl) | (simp [*, errW_none, errW_some] <;> rfl), by repeat (first | (with_reducible first | exact HB.out | apply below_alloc | apply pw_below_drewN | apply below_drew1) | exact HB.out)⟩

/-! ### impl_ones: function 39 (given) -/
def impl_ones.f (a0 : Int) : Option (List Int) := if 1 ≤ a0 ∧ a0 ≤ 5 then some (List.replicate a0.toNat 1) else none
set_option maxRecDepth 100000 in
set_option maxHeartbeats 2000000 in
theorem impl_ones.mul64 (c : Int) (hc : c = 1 ∨ c = 2 ∨ c = 3 ∨ c = 4 ∨ c = 5) (w : World) : Calls Try.prog 84 #[.int .u64 1, .int .u64 c] w fun e w' => e = .returned (.tuple #[.int .u64 0, .int .u64 c]) ∧ ∃ q, w' = w.drewN q := by
  rcases hc with rfl | rfl | rfl | rfl | rfl <;>
  · go_enter Try.func84, Try.ntmps84
    go_wp2
    repeat (go_quiet (fail); try go_wp2)
    go_ret2
    exact ⟨by kernel_rfl, _, by first | rfl | exact (World.drewN_zero _).symm⟩
set_option maxRecDepth 100000 in
set_option maxHeartbeats 2000000 in
theorem impl_ones.mul (c : Int) (hc : c = 1 ∨ c = 2 ∨ c = 3 ∨ c = 4 ∨ c = 5) (w : World) : Calls Try.prog 77 #[.int .u64 1, .int .u64 c] w fun e w' => e = .returned (.tuple #[.int .u64 0, .int .u64 c]) ∧ ∃ q, w' = w.drewN q := by
  have hm := fun W => impl_ones.mul64 c hc W
  go_enter Try.func77, Try.ntmps77
  go_wp2_with (go_at_call 84; refine (hm _).mono ?_; rintro e w' ⟨rfl, q, rfl⟩)
  repeat (go_quiet (fail); try go_wp2)
  go_ret2
  exact ⟨rfl, q, rfl⟩
def impl_ones.row (c n : Nat) : List Value := List.replicate n (.int .i64 1) ++ List.replicate (c - n) (.int .i64 0)
theorem cell_lt {w : World} {ad : Addr} {v : Value} (h : w.cell? ad = some v) : ad.block < w.heap.size := by
  rcases Nat.lt_or_ge ad.block w.heap.size with h' | h'
  · exact h'
  · simp [World.cell?, Array.getElem?_eq_none h'] at h
theorem one_one : ∀ v ∈ [Value.int .i64 1], v.oneCell' = true := by simp [Value.oneCell']
theorem impl_ones.row_len (c n : Nat) (h : n ≤ c) : (impl_ones.row c n).length = c := by simp [impl_ones.row]; omega
theorem impl_ones.row_splice (c n m : Nat) (h : n + m ≤ c) : splice (impl_ones.row c n) n (List.replicate m (.int .i64 1)) = impl_ones.row c (n + m) := by
  unfold splice impl_ones.row
  rw [List.length_replicate]
  have e1 : (List.replicate n (Value.int .i64 1) ++ List.replicate (c - n) (Value.int .i64 0)).take n = List.replicate n (Value.int .i64 1) := by
    rw [List.take_append_of_le_length (by simp), List.take_of_length_le (by simp)]
  have e2 : (List.replicate n (Value.int .i64 1) ++ List.replicate (c - n) (Value.int .i64 0)).drop (n + m) = List.replicate (c - (n + m)) (Value.int .i64 0) := by
    rw [List.drop_append, List.drop_eq_nil_of_le (by simp), List.nil_append, List.length_replicate, Nat.add_sub_cancel_left, List.drop_replicate]
    congr 1
    omega
  rw [e1, e2, ← List.append_assoc, List.replicate_append_replicate]
theorem impl_ones.row_src {W : World} {g c n m : Nat} (hm : m ≤ n) (h : W.heap[g]? = some (.cells (impl_ones.row c n).toArray 3 (0, 0))) : ∀ j v, (List.replicate m (Value.int .i64 1))[j]? = some v → W.cell? ((⟨g, 0, none⟩ : Addr).add j) = some v := by
  intro j v hj
  have hjm : j < m := by
    rcases Nat.lt_or_ge j m with h' | h'
    · exact h'
    · rw [List.getElem?_eq_none (by rw [List.length_replicate]; exact h')] at hj
      cases hj
  rw [add_plain, blk_cell h j, ← hj]
  simp [impl_ones.row, List.getElem?_append, hjm, show j < n from by omega]
theorem impl_ones.made (c : Nat) : madeCells (Value.int .i64 0).cells (c * 1) = (impl_ones.row c 0).toArray := by
  apply Array.ext'
  rw [Nat.mul_one]
  show ((Array.range c).map _).toList = List.replicate 0 _ ++ List.replicate (c - 0) _
  rw [List.replicate_zero, List.nil_append, Nat.sub_zero, List.eq_replicate_iff]
  refine ⟨by simp, fun b hb => ?_⟩
  simp only [Array.toList_map, List.mem_map] at hb
  obtain ⟨a, _, rfl⟩ := hb
  show (#[Value.int .i64 0] : Array Value)[a % 1]! = _
  rw [Nat.mod_one]
  rfl
set_option maxRecDepth 100000 in
set_option maxHeartbeats 4000000 in
theorem impl_ones.rep (c : Nat) (h1 : 1 ≤ c) (h5 : c ≤ 5) (w : World) (ad : Addr) (cap : Nat) (hx : w.cell? ad = some (.int .i64 1)) : Calls Try.prog 62 #[.slice (some ad) 1 cap, .int .i64 (c : Int)] w fun e w' => ∃ v, e = .returned v ∧ (Kd.int .i64).R 3 w' w.heap.size (fun _ => True) v (List.replicate c 1) ∧ Below w.heap.size w w' := by
  have hm := fun W => impl_ones.mul (c : Int) (by omega) W
  have d1 : decide ((c : Int) < 0) = false := decide_eq_false (by omega)
  have d2 : decide ((9223372036854775807 : Int) < (c : Int)) = false := decide_eq_false (by omega)
  obtain ⟨i0, hi, hzz⟩ := Option.map_eq_some_iff.1 info3
  simp only [Prod.mk.injEq] at hzz
  obtain ⟨hz0, hz1, hz2⟩ := hzz
  have hmk : ∀ W : World, (Instr.makeSlice 22 (.int .i64 (c : Int)) (.int .i64 (c : Int))).run Try.prog W = .ok (.slice (some ⟨W.heap.size, 0, none⟩) c c) (W.alloc (.cells (impl_ones.row c 0).toArray 3)) := fun W => by
    have hr := run_makeSlice (P := Try.prog) W 22 3 i0 (.int .i64 0) Try.underlying22 hi hz0 .i64 .i64 (c : Int) (c : Int) (by omega) (Int.le_refl _) (by rw [hz1, Int.toNat_natCast]; omega) (by rw [hz2]; omega) (by omega)
    rw [hz1, Int.toNat_natCast, impl_ones.made c] at hr
    exact hr
  have hsz : (Try.prog.info? 3).map (·.size) = some 1 := by rw [hi]; exact congrArg some hz1
  have hlt : ad.block < w.heap.size := cell_lt hx
  clear hi hz0 hz1 hz2
  have hsrc : ∀ (q : Nat) (o : Obj), ∀ j v, [Value.int .i64 1][j]? = some v → ((w.drewN q).alloc o).cell? (ad.add j) = some v := by
    intro q o j v hj
    cases j with
    | zero =>
      rw [Addr.add_zero']
      obtain rfl : Value.int .i64 1 = v := by simpa using hj
      exact (World.cell?_alloc_lt (w := w.drewN q) (a := ad) (o := o) hlt).trans hx
    | succ j => simp at hj
  have hf0 : 0 + [Value.int .i64 1].length ≤ (impl_ones.row c 0).length := by rw [impl_ones.row_len c 0 (Nat.zero_le _)]; exact h1
  have HF := Aside0.mk hf0
  clear hf0
  have HS := Aside0.mk hsrc
  have HM := Aside0.mk hm
  clear hsrc
  go_enter Try.func62, Try.ntmps62
  go_wp2_with (first | (go_at_call 77; go_loud (refine (hm _).mono ?_; rintro e w' ⟨rfl, q, rfl⟩)) | ((with_reducible refine gate_builtin (b := .copy) (xs := #[.tmp 31, .tmp 32]) rfl ?_); go_loud (refine wpList_copy_splice rfl (.tmp 31) (.tmp 32) 22 22 rfl 3 Try.underlying22 hsz _ _ c c 1 cap rfl rfl w.heap.size 0 (impl_ones.row c 0) 3 ?ch [.int .i64 1] ?cn ?cp ?cf ?c1 w.heap.size w ?cb (Nat.le_refl _) ?_; (case ch => exact heap_alloc_new (w.drewN q) _); (case cn => exact (Nat.min_eq_left h1).symm); (case cp => intro _; exact ⟨rfl, _, rfl, HS.out _ _⟩); (case cf => exact HF.out); (case c1 => exact one_one); (case cb => exact below_alloc (pw_below_drewN (Below.refl _ _) _) _); intro w2 hg2 hb2)))
  have hrow : w2.heap[w.heap.size]? = some (.cells (impl_ones.row c 1).toArray 3 (0, 0)) := by
    have h := hg2.out
    rw [show ([Value.int .i64 1] : List Value) = List.replicate 1 (.int .i64 1) from rfl, impl_ones.row_splice c 0 1 (by omega)] at h
    exact h
  have HR := Aside0.mk hrow
  have HB := Aside0.mk hb2
  clear hg2 hb2 hrow HS HM hm hmk HF
  go_loopg [8] c (fun gg s8 wr => ∃ n : Nat, s8 = .int .i64 (n : Int) ∧ 1 ≤ n ∧ n ≤ c ∧ c - n ≤ gg ∧ Aside0 (wr.heap[w.heap.size]? = some (.cells (impl_ones.row c n).toArray 3 (0, 0))) ∧ Aside0 (Below w.heap.size w wr))
  case atStart => exact ⟨1, by go_num, Nat.le_refl _, h1, by omega, HR, HB⟩
  case round =>
    clear HR HB
    obtain ⟨n, rfl, hn1, hnc, hgg, HR, HB⟩ := hrel
    by_cases hlt : n < c
    · have d3 : decide ((n : Int) < (c : Int)) = true := decide_eq_true (by omega)
      have hz1 := eq_true (show (n : Int) ≤ (c : Int) by omega)
      have hz2 := eq_true (show 0 ≤ (n : Int) by omega)
      have hne : ¬ c = n := by omega
      have hwm : IntKind.i64.wrap ((n : Int) + ((min n (c - n) : Nat) : Int)) = ((n + min n (c - n) : Nat) : Int) := by rw [i64_w]; unfold wrap64; omega
      have HW := Aside0.mk hwm
      clear hwm
      go_wp2
      go_region_held3 (fun _ => True) (exact True.intro) (first | (refine step_copy_splice rfl (.tmp 41) (.tmp 44) 22 22 rfl 3 Try.underlying22 hsz _ _ (c - n) (c - n) n c rfl rfl w.heap.size n (impl_ones.row c n) 3 ?ch (List.replicate (min n (c - n)) (.int .i64 1)) ?cn ?cp ?cf ?c1 w.heap.size w ?cb (Nat.le_refl _) ?_; (case ch => exact HR.out); (case cn => rw [List.length_replicate]); (case cp => intro _; exact ⟨rfl, _, rfl, impl_ones.row_src (by omega) HR.out⟩); (case cf => rw [List.length_replicate, impl_ones.row_len c n hnc]; omega); (case c1 => intro v hv; rw [List.eq_of_mem_replicate hv]; rfl); (case cb => exact below_drew1 HB.out); intro w3 hg3 hb3))
      have hrow := hg3.out
      rw [impl_ones.row_splice c n (min n (c - n)) (by omega)] at hrow
      go_wp2
      go_roundg (c - (n + min n (c - n)))
      case measure => omega
      case rel => exact ⟨n + min n (c - n), congrArg (Value.int .i64) HW.out, by omega, by omega, Nat.le_refl _, ⟨hrow⟩, ⟨hb3⟩⟩
    · have d3 : decide ((n : Int) < (c : Int)) = false := decide_eq_false (by omega)
      obtain rfl : n = c := by omega
      go_wp2
      go_ret
      refine ⟨.slice (some ⟨w.heap.size, 0, none⟩) n n, rfl, Kd.R_of_own (xs := List.replicate n (1 : Int)) ⟨by simp [encs], .inr ⟨w.heap.size, n, _, by rw [List.length_replicate], Nat.le_refl _, HR.out, by rw [List.length_replicate]; exact Nat.le_refl _, by simp only [maxLen]; omega, by simp [impl_ones.row_len], ?_⟩⟩ (fun _ _ => trivial), HB.out⟩
      simp [impl_ones.row, encs]
set_option maxRecDepth 100000 in
set_option maxHeartbeats 2000000 in
theorem impl_ones.calls (a0 : Int) (r : List Int) (w : World) (h : impl_ones.f a0 = some r) :
    Calls Try.prog 39 #[.int .i64 a0] w fun e w' => ∃ v0_ : Value, e = .returned (v0_) ∧ Kd.R (Kd.int .i64) 3 w' w.heap.size (fun _ => True) v0_ r ∧ Below w.heap.size w w' := by
  unfold impl_ones.f at h
  by_cases hb : 1 ≤ a0 ∧ a0 ≤ 5
  · rw [if_pos hb] at h
    obtain rfl := Option.some.inj h
    obtain ⟨c, rfl⟩ := Int.eq_ofNat_of_zero_le (show 0 ≤ a0 by omega)
    rw [Int.toNat_natCast]
    have h1 : 1 ≤ c := by omega
    have h5 : c ≤ 5 := by omega
    have hrep := fun W ad cap hx => impl_ones.rep c h1 h5 W ad cap hx
    clear h hb
    go_enter Try.func39, Try.ntmps39
    go_wp2_with (go_at_call 62; go_loud (refine (hrep _ ⟨w.heap.size, 0, none⟩ _ (by rw [World.cell?_alloc_new]; rfl)).mono ?_; rintro e w1 ⟨v, rfl, hR, hb⟩; have hs : w.heap.size ≤ (w.alloc (.cells #[.int .i64 1] 3)).heap.size := by simp))
    go_ret
    exact ⟨_, rfl, Kd.R_lower hR hs, below_step (below_alloc (Below.refl _ _) _) hb⟩
  · rw [if_neg hb] at h
    exact absurd h (by simp)

end Go.Proofs.Ytcnancjkajbldaa.P
