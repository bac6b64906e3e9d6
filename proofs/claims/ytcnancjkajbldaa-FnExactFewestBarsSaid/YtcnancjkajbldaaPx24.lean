-- Printed by wip/pp.py of this claim's session (the kit's print over functions that are given by hand). Not trusted: Lean checks it.
import Derived.Test.YtcnancjkajbldaaPx0
import Derived.Test.YtcnancjkajbldaaPx4
import Derived.Test.YtcnancjkajbldaaPx5
import Derived.Test.YtcnancjkajbldaaPx23
namespace Go.Proofs.Ytcnancjkajbldaa.P
open Go.RowKit Go.Proofs.YtcnancjkajbldaaW.PrintWords Go.Proofs.YtcnancjkajbldaaW.PrintLast Go.Proofs.YtcnancjkajbldaaW.PrintMore
attribute [local go_sem] max2_int min2_int max_two min_two max_three min_three max_four min_four   -- for this text's walks alone
set_option linter.unusedVariables false
set_option linter.unusedSimpArgs false

/-! ### impl_AreRails: function 69 -/
def impl_AreRails.f (l0 : List Int) : Option (Bool) := (impl_within.f (l0.length : Int) 1 8).bind fun t474 => (if t474 = true then ((impl_areLong.f l0).bind fun t475 => (some t475)) else (some false))
set_option maxHeartbeats 8000000 in
set_option maxRecDepth 100000 in
theorem impl_AreRails.calls (A0 : Option Addr) (c0 : Nat) (l0 : List Int) (r : Bool) (w : World) (hr0 : Kd.C (Kd.int .i64) w A0 l0.length l0) (hc0 : l0.length ≤ c0) (h : impl_AreRails.f l0 = some r) :
    Calls Try.prog 69 #[.slice A0 l0.length c0] w fun e w' => e = .returned (.bool r) ∧ Below w.heap.size w w' := by
  have HR0 := Aside0.mk hr0
  have HC0 := Aside0.mk hc0
  clear hr0 hc0
  have HB := Aside0.mk (Below.refl w.heap.size w)
  have H : ((impl_within.f (l0.length : Int) 1 8).bind fun t474 => (if t474 = true then ((impl_areLong.f l0).bind fun t475 => (some t475)) else (some false))) = some r := h
  clear h
  replace H := Option.bind_eq_some_iff.mp H
  obtain ⟨t474, A20, H⟩ := H
  replace H : (if t474 = true then ((impl_areLong.f l0).bind fun t475 => (some t475)) else (some false)) = some r := H
  have A2 := Aside0.mk A20
  clear A20
  by_cases c3 : t474 = true
  · subst c3
    have H1 : ((impl_areLong.f l0).bind fun t475 => (some t475)) = some r := by rw [if_pos rfl] at H; exact H
    clear H
    have H := H1
    clear H1
    replace H := Option.bind_eq_some_iff.mp H
    obtain ⟨t475, A40, H⟩ := H
    replace H : (some t475) = some r := H
    have A4 := Aside0.mk A40
    clear A40
    obtain rfl := Option.some.inj H
    go_enter Try.func69, Try.ntmps69
    go_wp2_with (first | ((with_reducible refine gate_callee (f := 61) rfl ?_); refine goesL_ (some 5) rfl rfl Try.func61 (by kernel_rfl) rfl #[.int .i64 (l0.length : Int), .int .i64 1, .int .i64 8] rfl (by (try simp only [List.map_toArray, List.map_cons, List.map_nil]); first | done | rfl | (simp only [List.length_drop, List.length_take]; rfl)) ?_; (with_reducible refine (impl_within.calls (l0.length : Int) 1 8 true _ A2.out).mono ?_); rintro e w' ⟨rfl, ⟨nd, rfl⟩⟩; refine ⟨_, rfl, ?_⟩) | (go_at_call 70; (with_reducible refine (impl_areLong.calls _ _ l0 t475 _ ?side1 ?side2 A4.out).mono ?_); (case side1 => repeat (first | exact HR0.out | (with_reducible refine Kd.C_alloc ?_ _) | (with_reducible refine Kd.C_drewN ?_ _) | (with_reducible refine Kd.C_drew ?_))); (case side2 => exact HC0.out); rintro e w5 ⟨rfl, hb⟩; have n0_ := Aside0.mk (below_step (by repeat (first | (with_reducible first | exact HB.out | apply below_alloc | apply pw_below_drewN | apply below_drew1) | exact HB.out)) hb); clear HB; have HB := n0_; clear n0_; (try clear hb); (try clear hb2); (try clear hk); (try clear hi)))
    go_ret
    exact ⟨by first | rfl | (simp [errW_none, errW_some] <;> rfl) | (simp [*, errW_none, errW_some] <;> rfl), by repeat (first | (with_reducible first | exact HB.out | apply below_alloc | apply pw_below_drewN | apply below_drew1) | exact HB.out)⟩
  · replace c3 := Bool.eq_false_iff.mpr c3
    subst c3
    have H1 : (some false) = some r := by rw [if_neg (show ¬ (false = true) by decide)] at H; exact H
    clear H
    have H := H1
    clear H1
    obtain rfl := Option.some.inj H
    go_enter Try.func69, Try.ntmps69
    go_wp2_with (first | ((with_reducible refine gate_callee (f := 61) rfl ?_); refine goesL_ (some 5) rfl rfl Try.func61 (by kernel_rfl) rfl #[.int .i64 (l0.length : Int), .int .i64 1, .int .i64 8] rfl (by (try simp only [List.map_toArray, List.map_cons, List.map_nil]); first | done | rfl | (simp only [List.length_drop, List.length_take]; rfl)) ?_; (with_reducible refine (impl_within.calls (l0.length : Int) 1 8 false _ A2.out).mono ?_); rintro e w' ⟨rfl, ⟨nd, rfl⟩⟩; refine ⟨_, rfl, ?_⟩))
    go_ret
    exact ⟨by first | rfl | (simp [errW_none, errW_some] <;> rfl) | (simp [*, errW_none, errW_some] <;> rfl), by repeat (first | (with_reducible first | exact HB.out | apply below_alloc | apply pw_below_drewN | apply below_drew1) | exact HB.out)⟩

/-! ### impl_areBarred: function 45 -/
def impl_areBarred.f (l0 : List Int) (a1 : Int) : Option (Bool) := (impl_AreRails.f l0).bind fun t476 => (if t476 = true then ((impl_areLong.f (([a1] : List Int))).bind fun t480 => (some t480)) else (some false))
set_option maxHeartbeats 8000000 in
set_option maxRecDepth 100000 in
theorem impl_areBarred.calls (A0 : Option Addr) (c0 : Nat) (l0 : List Int) (a1 : Int) (r : Bool) (w : World) (hr0 : Kd.C (Kd.int .i64) w A0 l0.length l0) (hc0 : l0.length ≤ c0) (h : impl_areBarred.f l0 a1 = some r) :
    Calls Try.prog 45 #[.slice A0 l0.length c0, .int .i64 a1] w fun e w' => e = .returned (.bool r) ∧ Below w.heap.size w w' := by
  have HR0 := Aside0.mk hr0
  have HC0 := Aside0.mk hc0
  clear hr0 hc0
  have HB := Aside0.mk (Below.refl w.heap.size w)
  have H : ((impl_AreRails.f l0).bind fun t476 => (if t476 = true then ((impl_areLong.f (([a1] : List Int))).bind fun t480 => (some t480)) else (some false))) = some r := h
  clear h
  replace H := Option.bind_eq_some_iff.mp H
  obtain ⟨t476, A30, H⟩ := H
  replace H : (if t476 = true then ((impl_areLong.f (([a1] : List Int))).bind fun t480 => (some t480)) else (some false)) = some r := H
  have A3 := Aside0.mk A30
  clear A30
  by_cases c4 : t476 = true
  · subst c4
    have H1 : ((impl_areLong.f (([a1] : List Int))).bind fun t480 => (some t480)) = some r := by rw [if_pos rfl] at H; exact H
    clear H
    have H := H1
    clear H1
    obtain ⟨y477, hy477⟩ : ∃ y_ : List Int, y_ = (([a1] : List Int)) := ⟨_, rfl⟩
    replace H : ((impl_areLong.f y477).bind fun t480 => (some t480)) = some r := by first | (rw [hy477]; with_reducible exact H) | (have H2_ := (Option.bind_some _ _).symm.trans H; rw [hy477]; with_reducible exact H2_) | (have H2_ := (Option.bind_some _ _).symm.trans H; with_reducible exact H2_) | with_reducible exact H | (rw [hy477]; exact H) | exact H
    have Ny477 := Aside0.mk hy477
    clear hy477
    replace H := Option.bind_eq_some_iff.mp H
    obtain ⟨t480, A50, H⟩ := H
    replace H : (some t480) = some r := H
    have A5 := Aside0.mk A50
    clear A50
    obtain rfl := Option.some.inj H
    go_enter Try.func45, Try.ntmps45
    go_wp2_with (first | ((with_reducible refine gate_callee (f := 69) rfl ?_); refine goesL_ (some 6) rfl rfl Try.func69 (by kernel_rfl) rfl #[.slice A0 l0.length c0] rfl (by (try simp only [List.map_toArray, List.map_cons, List.map_nil]); first | done | rfl | (simp only [List.length_drop, List.length_take]; rfl)) ?_; (with_reducible refine (impl_AreRails.calls _ _ l0 true _ ?side1 ?side2 A3.out).mono ?_); (case side1 => repeat (first | exact HR0.out | (with_reducible refine Kd.C_alloc ?_ _) | (with_reducible refine Kd.C_drewN ?_ _) | (with_reducible refine Kd.C_drew ?_))); (case side2 => exact HC0.out); rintro e w6 ⟨rfl, hb⟩; refine ⟨_, rfl, ?_⟩; have n0_ := Aside0.mk (below_step (by repeat (first | (with_reducible first | exact HB.out | apply below_alloc | apply pw_below_drewN | apply below_drew1) | exact HB.out)) hb); clear HB; have HB := n0_; clear n0_; (try clear hb); (try clear hb2); (try clear hk); (try clear hi)) | ((with_reducible refine gate_dst (N := 9) rfl ?_); (try (refine gate_guard (by rfl) ?_; dsimp only)); refine Kd.R_lit (Kd.int .i64) _ 3 ?hg (N := 9) ?hd (xs := ([a1] : List Int)) (inner := [.int .i64 a1]) (ok := fun _ => True) (okp := fun _ => True) ?hr ?hp (fun _ hk => hk) trivial (Below.refl _ _) (Nat.le_refl _) (by simp) ?_; (case hd => rfl); (case hg => rfl); (case hr => first | (go_simp; done) | (go_simp; rfl)); (case hp => exact (Reps.one (show Kd.M (Kd.int .i64) _ _ _ a1 [.int .i64 a1] from rfl) (Reps.none _ _))); intro v478 w7 ho8 hb hg_ hnew_; clear hg_ hnew_; (first | rw [← Ny477.out] at ho8 | (simp only [Int.reduceToNat] at ho8; rw [← Ny477.out] at ho8)); have n0_ := Aside0.mk (Kd.R_lower ho8 (below_size (by repeat (first | (with_reducible first | exact HB.out | apply below_alloc | apply pw_below_drewN | apply below_drew1) | exact HB.out)))); have n1_ := Aside0.mk (below_step (by repeat (first | (with_reducible first | exact HB.out | apply below_alloc | apply pw_below_drewN | apply below_drew1) | exact HB.out)) hb); clear HB; have HO479 := n0_; have HB := n1_; clear n0_ n1_; clear hb ho8; obtain ⟨Ao9, co9, eo9⟩ := Kd.R_slice HO479.out; subst eo9) | (go_at_call 70; (with_reducible refine (impl_areLong.calls _ _ y477 t480 _ ?side1 ?side2 A5.out).mono ?_); (case side1 => repeat (first | exact (Kd.R_reads' HO479.out).2.2 | (with_reducible refine Kd.C_alloc ?_ _) | (with_reducible refine Kd.C_drewN ?_ _) | (with_reducible refine Kd.C_drew ?_))); (case side2 => exact (Kd.R_reads' HO479.out).2.1); rintro e w10 ⟨rfl, hb⟩; have n0_ := Aside0.mk (Kd.R_below (by (with_reducible repeat (first | apply Kd.R_alloc | apply Kd.R_drewN | apply Kd.R_drew)); exact HO479.out) hb); have n1_ := Aside0.mk (below_step (by repeat (first | (with_reducible first | exact HB.out | apply below_alloc | apply pw_below_drewN | apply below_drew1) | exact HB.out)) hb); clear HO479; clear HB; have HO479 := n0_; have HB := n1_; clear n0_ n1_; (try clear hb); (try clear hb2); (try clear hk); (try clear hi)))
    go_ret
    exact ⟨by first | rfl | (simp [errW_none, errW_some] <;> rfl) | (simp [*, errW_none, errW_some] <;> rfl), by repeat (first | (with_reducible first | exact HB.out | apply below_alloc | apply pw_below_drewN | apply below_drew1) | exact HB.out)⟩
  · replace c4 := Bool.eq_false_iff.mpr c4
    subst c4
    have H1 : (some false) = some r := by rw [if_neg (show ¬ (false = true) by decide)] at H; exact H
    clear H
    have H := H1
    clear H1
    obtain rfl := Option.some.inj H
    go_enter Try.func45, Try.ntmps45
    go_wp2_with (first | ((with_reducible refine gate_callee (f := 69) rfl ?_); refine goesL_ (some 6) rfl rfl Try.func69 (by kernel_rfl) rfl #[.slice A0 l0.length c0] rfl (by (try simp only [List.map_toArray, List.map_cons, List.map_nil]); first | done | rfl | (simp only [List.length_drop, List.length_take]; rfl)) ?_; (with_reducible refine (impl_AreRails.calls _ _ l0 false _ ?side1 ?side2 A3.out).mono ?_); (case side1 => repeat (first | exact HR0.out | (with_reducible refine Kd.C_alloc ?_ _) | (with_reducible refine Kd.C_drewN ?_ _) | (with_reducible refine Kd.C_drew ?_))); (case side2 => exact HC0.out); rintro e w11 ⟨rfl, hb⟩; refine ⟨_, rfl, ?_⟩; have n0_ := Aside0.mk (below_step (by repeat (first | (with_reducible first | exact HB.out | apply below_alloc | apply pw_below_drewN | apply below_drew1) | exact HB.out)) hb); clear HB; have HB := n0_; clear n0_; (try clear hb); (try clear hb2); (try clear hk); (try clear hi)))
    go_ret
    exact ⟨by first | rfl | (simp [errW_none, errW_some] <;> rfl) | (simp [*, errW_none, errW_some] <;> rfl), by repeat (first | (with_reducible first | exact HB.out | apply below_alloc | apply pw_below_drewN | apply below_drew1) | exact HB.out)⟩

/-! ### impl_FirstFit: function 28 (given) -/
/-- Has a bar enough left? -/
def impl_FirstFit.pr (rail n : Int) : Bool := decide (n ≥ rail)
def impl_FirstFit.l0 (bar : Int) : List Int → List Int → List Int → List Int
  | [], out, _ => out
  | rail :: rs, out, left =>
    if slices_IndexFunc_int_int.at (impl_FirstFit.pr rail) left < 0 then impl_FirstFit.l0 bar rs (out ++ [(left.length : Int)]) ((left ++ [bar]).set left.length (wrap64 (bar - rail)))
    else impl_FirstFit.l0 bar rs (out ++ [slices_IndexFunc_int_int.at (impl_FirstFit.pr rail) left]) (left.set (slices_IndexFunc_int_int.at (impl_FirstFit.pr rail) left).toNat (wrap64 (rd left (slices_IndexFunc_int_int.at (impl_FirstFit.pr rail) left) - rail)))
def impl_FirstFit.f (k : Nat) (l0 : List Int) (a1 : Int) : Option (List Int × Bool) :=
  (impl_areBarred.f l0 a1).bind fun b => if b = true then ((slices_Max_int_int.f k l0).bind fun m => if m > a1 then some ([], false) else if l0.length ≤ 100000 then some (impl_FirstFit.l0 a1 l0 [] [], true) else none) else some ([], false)
theorem impl_FirstFit.mono : ∀ a0 a1 k, LeO (impl_FirstFit.f k a0 a1) (impl_FirstFit.f (k + 1) a0 a1) := fun a0 a1 k => by
  unfold impl_FirstFit.f
  refine LeO.bind (LeO.refl _) (fun _ => LeO.ite (LeO.bind (slices_Max_int_int.mono _ k) (fun _ => LeO.refl _)) (LeO.refl _))
set_option maxRecDepth 100000 in
theorem impl_FirstFit.pred (rail : Int) (B : Nat) (W : World) (hc : W.cell? ⟨B, 0, none⟩ = some (.int .i64 rail)) (x : Int) : Calls Try.prog 48 (#[.int .i64 x] ++ #[.pointer (some ⟨B, 0, none⟩)]) W fun e w' => e = .returned (.bool (impl_FirstFit.pr rail x)) ∧ ∃ q, w' = W.drewN q := by
  show Calls Try.prog 48 #[.int .i64 x, .pointer (some ⟨B, 0, none⟩)] W fun e w' => e = .returned (.bool (decide (x ≥ rail))) ∧ ∃ q, w' = W.drewN q
  go_enter Try.func48, Try.ntmps48
  go_wp2
  repeat (go_quiet (fail); try go_wp2)
  go_ret
  exact ⟨rfl, by first | exact ⟨_, rfl⟩ | exact ⟨0, rfl⟩⟩
theorem at_le (p : Int → Bool) (l : List Int) : -1 ≤ slices_IndexFunc_int_int.at p l ∧ slices_IndexFunc_int_int.at p l < (l.length : Int) := by
  unfold slices_IndexFunc_int_int.at
  cases h : l.findIdx? p with
  | none => exact ⟨Int.le_refl _, by show (-1 : Int) < _; omega⟩
  | some i =>
    rw [List.findIdx?_eq_some_iff_getElem] at h
    obtain ⟨hi, _⟩ := h
    exact ⟨by show (-1 : Int) ≤ (i : Int); omega, by show (i : Int) < _; omega⟩
theorem empty_row {W : World} {g base : Nat} {ok : Nat → Prop} (hh : W.heap[g]? = some (.cells #[] 3 (0, 0))) (hb : base ≤ g) (hok : ok g) : (Kd.int .i64).R 3 W base ok (.slice (some ⟨g, 0, none⟩) 0 0) [] := by
  refine Kd.R_of_own (xs := ([] : List Int)) ⟨rfl, .inr ⟨g, 0, #[], rfl, hb, hh, Nat.le_refl _, Nat.zero_le _, rfl, rfl⟩⟩ (fun k hk => ?_)
  have : g = k := by simpa [Value.ownBlock] using hk
  subst this
  exact hok
set_option maxRecDepth 100000 in
set_option maxHeartbeats 8000000 in
theorem impl_FirstFit.calls (k : Nat) (A0 : Option Addr) (c0 : Nat) (l0 : List Int) (a1 : Int) (r1 : List Int) (r2 : Bool) (w : World) (hr0 : Kd.C (Kd.int .i64) w A0 l0.length l0) (hc0 : l0.length ≤ c0) (h : impl_FirstFit.f k l0 a1 = some (r1, r2)) :
    Calls Try.prog 28 #[.slice A0 l0.length c0, .int .i64 a1] w fun e w' => ∃ v0_ : Value, e = .returned (.tuple #[v0_, .bool r2]) ∧ Kd.R (Kd.int .i64) 3 w' w.heap.size (fun _ => True) v0_ r1 ∧ Below w.heap.size w w' := by
  have eg : ∀ args w, (callFunc 48 args).run Try.prog w = .ok (.enter 48 args) w := enters_of Try.func48 (by kernel_rfl) rfl
  have hmf : ∀ (fn : Fn) (first cap : Array Value) (w : World), (Instr.makeFunc fn first cap).run Try.prog w = .ok (.func fn first cap) w := fun _ _ _ _ => rfl
  have HR0 := Aside0.mk hr0
  have HC0 := Aside0.mk hc0
  unfold impl_FirstFit.f at h
  obtain ⟨b, hb, H⟩ := Option.bind_eq_some_iff.mp h
  have hbar := fun W hr => impl_areBarred.calls A0 c0 l0 a1 b W hr hc0 hb
  clear h hb hc0
  cases b with
  | false =>
    simp only [Bool.false_eq_true, if_false] at H
    obtain ⟨rfl, rfl⟩ : [] = r1 ∧ false = r2 := by simpa using H
    clear H hr0
    go_enter Try.func28, Try.ntmps28
    go_wp2_with (go_at_call 45; refine (hbar _ HR0.out).mono ?_; rintro e w1 ⟨rfl, hb⟩)
    go_ret2
    exact ⟨_, rfl, Kd.R_nil _ _ _ _ _, hb⟩
  | true =>
    simp only [if_true] at H
    obtain ⟨m, hm, H⟩ := Option.bind_eq_some_iff.mp H
    have hmax := fun W hr => slices_Max_int_int.calls k A0 c0 l0 m W hr HC0.out hm
    clear hm hr0
    by_cases hgt : m > a1
    · rw [if_pos hgt] at H
      obtain ⟨rfl, rfl⟩ : [] = r1 ∧ false = r2 := by simpa using H
      have d1 : decide (a1 < m) = true := decide_eq_true hgt
      clear H hgt
      go_enter Try.func28, Try.ntmps28
      go_wp2_with (first | (go_at_call 45; refine (hbar _ HR0.out).mono ?_; rintro e w1 ⟨rfl, hb⟩) | (go_at_call 46; refine (hmax _ (Kd.C_below HR0.out hb)).mono ?_; rintro e w2 ⟨rfl, hb2⟩))
      go_ret2
      exact ⟨_, rfl, Kd.R_nil _ _ _ _ _, below_step hb hb2⟩
    · rw [if_neg hgt] at H
      by_cases hlen : l0.length ≤ 100000
      · rw [if_pos hlen] at H
        obtain ⟨hr, rfl⟩ : impl_FirstFit.l0 a1 l0 [] [] = r1 ∧ true = r2 := by simpa using H
        have d1 : decide (a1 < m) = false := decide_eq_false hgt
        clear H hgt
        have H := Aside0.mk hr
        clear hr
        go_enter Try.func28, Try.ntmps28
        go_wp2_with (first | (go_at_call 45; refine (hbar _ HR0.out).mono ?_; rintro e w1 ⟨rfl, hb⟩) | (go_at_call 46; refine (hmax _ (Kd.C_below HR0.out hb)).mono ?_; rintro e w2 ⟨rfl, hb2⟩; have hb3 := below_step hb hb2; have HB := Aside0.mk hb3; clear hb3))
        have hE := Aside0.mk (empty_row (ok := fun k => some k ≠ (Value.slice (some ⟨w2.heap.size + 1, 0, none⟩) 0 0).ownBlock) (W := (w2.alloc (.cells #[] 3)).alloc (.cells #[] 3)) (g := w2.heap.size) (base := w.heap.size) (blk_alloc (blk_new w2 _) _) HB.out.size (by simp [Value.ownBlock]))
        have hE2 := Aside0.mk (empty_row (ok := fun k => some k ≠ (Value.slice (some ⟨w2.heap.size, 0, none⟩) 0 0).ownBlock) (W := (w2.alloc (.cells #[] 3)).alloc (.cells #[] 3)) (g := w2.heap.size + 1) (base := w.heap.size) (by have h := blk_new (w2.alloc (.cells #[] 3)) (.cells #[] 3 (0, 0)); rw [show (w2.alloc (.cells #[] 3)).heap.size = w2.heap.size + 1 from by simp] at h; exact h) (by have := HB.out.size; omega) (by simp [Value.ownBlock]))
        clear hb hb2 hbar hmax
        go_loopg [6, 7, 9, 10, 25] l0.length (fun gg v6 v7 _ _ s25 wr => ∃ (i : Nat) (O L : List Int), s25 = .int .i64 (i : Int) ∧ i ≤ l0.length ∧ l0.length - i ≤ gg ∧ Aside0 (impl_FirstFit.l0 a1 (l0.drop i) O L = r1) ∧ O.length ≤ i ∧ L.length ≤ i ∧ Aside0 ((Kd.int .i64).R 3 wr w.heap.size (fun k => some k ≠ v7.ownBlock) v6 O) ∧ Aside0 ((Kd.int .i64).R 3 wr w.heap.size (fun k => some k ≠ v6.ownBlock) v7 L) ∧ Aside0 (Below w.heap.size w wr))
        case atStart => exact ⟨0, [], [], by go_num, Nat.zero_le _, by omega, H, Nat.le_refl _, Nat.le_refl _, hE, hE2, ⟨below_alloc (below_alloc HB.out _) _⟩⟩
        case round =>
          clear H hE hE2 HB
          obtain ⟨i, O, L, rfl, hin, hgg, HA, hO, hL, HO_6, HO_7, HB⟩ := hrel
          by_cases hlt : i < l0.length
          · have d2 : decide ((i : Int) < (l0.length : Int)) = true := decide_eq_true (by omega)
            have p0 := eq_true (show 0 ≤ (i : Int) by omega)
            have p1 := eq_true (show (i : Int) < (l0.length : Int) by omega)
            obtain ⟨ad, e, hx0⟩ := Kd.at_int (Kd.C_below HR0.out HB.out) (i : Int) (by omega) (by omega)
            cases e
            rw [Int.toNat_natCast] at hx0
            have hA := HA.out
            have hrd : rd l0 (i : Int) = l0[i] := by simp [rd, List.getElem?_eq_getElem hlt, List.getD_eq_getElem?_getD]
            rw [List.drop_eq_getElem_cons hlt, ← hrd] at hA
            clear HA hrd
            generalize rd l0 (i : Int) = rail at hx0 hA
            obtain ⟨A7, c7, rfl⟩ := Kd.R_slice HO_7.out
            have hcL := Kd.C_below (Kd.R_reads' HO_7.out).2.2 (below_alloc (Below.refl _ _) (.cells #[.int .i64 rail] 3))
            have hbox := blk_new wr (.cells #[.int .i64 rail] 3 (0, 0))
            have hsz : wr.heap.size < (wr.alloc (.cells #[.int .i64 rail] 3)).heap.size := by simp
            have hgv := slices_IndexFunc_int_int.gives 48 #[.pointer (some ⟨wr.heap.size, 0, none⟩)] eg (impl_FirstFit.pr rail) A7 c7 L (wr.alloc (.cells #[.int .i64 rail] 3)) (fun W x hbW => impl_FirstFit.pred rail wr.heap.size W ((hbW.cell hsz).trans (blk_cell hbox 0)) x) hcL
            have hat1 := at_le (impl_FirstFit.pr rail) L
            unfold impl_FirstFit.l0 at hA
            generalize slices_IndexFunc_int_int.at (impl_FirstFit.pr rail) L = kk at hgv hA hat1
            have HX := Aside0.mk hbox
            have hown := Kd.R_lt HO_7.out
            have hown6 := Kd.R_lt HO_6.out
            have HOw := Aside0.mk hown
            clear hcL hbox hown hown6
            by_cases hk : kk < 0
            · rw [if_pos hk] at hA
              have HA := Aside0.mk hA
              have d3 : decide (kk < 0) = true := decide_eq_true hk
              clear hA
              go_wp2_with (first | (go_at_call 47; refine hgv.mono ?_; rintro e w5 ⟨rfl, q, rfl⟩) | ((with_reducible refine gate_builtin (b := .append) (xs := #[.tmp 36, .tmp 38]) rfl ?_); go_loud (at_builtin; refine Kd.R_append (Kd.int .i64) (w0 := w) w.heap.size rfl (.tmp 36) (.tmp 38) 22 3 (.int .i64 0) 8 rfl Try.underlying22 info3 rfl (by decide) (by omega) (.slice A7 L.length c7) L a1 [.int .i64 a1] (fun k => some k ≠ (u6 : Value).ownBlock) (fun _ => False) rfl (by first | rfl | (go_simp; done) | (go_simp; rfl)) ?aP (fun _ hk => hk.elim) ?aF ?aO ?aB ?aS ?aL ?_; (case aP => exact rfl); (case aF => exact fun k hk => Kd.fresh' (Kd.R_lt (by (with_reducible repeat (first | apply Kd.R_alloc | apply Kd.R_drewN | apply Kd.R_drew)); exact HO_6.out)) k hk); (case aO => (with_reducible repeat (first | apply Kd.R_alloc | apply Kd.R_drewN | apply Kd.R_drew)); exact HO_7.out); (case aB => exact pw_below_drewN (below_alloc HB.out _) _); (case aS => exact below_size (pw_below_drewN (below_alloc HB.out _) _)); (case aL => omega); intro v7b w6 ho hb hg hat; have n6 := Aside0.mk (Kd.R_after (ok := (fun _ => True)) (by (with_reducible repeat (first | apply Kd.R_alloc | apply Kd.R_drewN | apply Kd.R_drew)); exact Kd.R_mono HO_6.out (fun _ hk => ⟨trivial, hk⟩)) hg hat); have nb := Aside0.mk (blk_grown (blk_drewN HX.out q) hg (fun he => absurd (HOw.out _ he.symm) (Nat.lt_irrefl _))); clear HO_6 HO_7 HB HX hg hat; have HO_6 := n6; have HO_7 := Aside0.mk ho; have HB := Aside0.mk hb; have HX := nb; clear n6 nb ho hb; have hboxc := cell_of_one HX.out; obtain ⟨A8, c8, e8⟩ := Kd.R_slice HO_7.out; subst e8)))
              obtain ⟨g, cap, hv, hg1, hg2, hcells⟩ := Kd.R_form HO_7.out (by simp)
              injection hv with ha hn hcap
              subst ha hcap
              obtain ⟨hx, hfz⟩ := Kd.R_celln (enc := Value.int .i64) (h1 := fun _ => rfl) (0 : Int) HO_7.out (L.length : Int) (by omega) (by simp; omega)
              have hput := Kd.R_putg HO_7.out (L.length : Int) (wrap64 (a1 - rail))
              rw [show rdOf (0 : Int) (L ++ [a1]) (L.length : Int) = a1 from by simp [rdOf]] at hx
              rw [Int.toNat_natCast] at hx hfz hput
              have HPut := Aside0.mk hput
              have HG := Aside0.mk hg1
              have e0 := eq_true (show 0 ≤ (L.length : Int) by omega)
              have e1 := eq_true (show (L.length : Int) < ((L.length + 1 : Nat) : Int) by omega)
              clear hput hg1 hg2 hcells hn
              go_region
              have m7 := Kd.R_drew HPut.out.1
              have m6 := Kd.R_drew (Kd.R_after (v := .slice (some ⟨g, 0, none⟩) (L ++ [a1]).length c8) (v1 := .slice (some ⟨g, 0, none⟩) (L ++ [a1]).length c8) (ok := fun _ => True) HO_6.out HPut.out.2 (.inl rfl))
              have mb := below_drew1 (below_set (g := g) (j := L.length) (v := .int .i64 (wrap64 (a1 - rail))) HB.out HG.out)
              rw [show (L ++ [a1]).length = L.length + 1 from by simp] at m7 m6
              generalize (w6.setCell ⟨g, L.length, none⟩ (.int .i64 (wrap64 (a1 - rail)))).drew = w7 at m7 m6 mb ⊢
              have hl3 : ((L ++ [a1]).set L.length (wrap64 (a1 - rail))).length ≤ i + 1 := by rw [List.length_set, List.length_append, List.length_singleton]; omega
              generalize (L ++ [a1]).set L.length (wrap64 (a1 - rail)) = L3 at m7 HA hl3
              have n7 := Aside0.mk m7
              have n6 := Aside0.mk m6
              have nb := Aside0.mk mb
              clear HO_6 HO_7 HB HPut HG m7 m6 mb
              go_wp2_with (first | ((with_reducible refine gate_builtin (b := .append) (xs := #[.tmp 47, .tmp 49]) rfl ?_); go_loud (at_builtin; refine Kd.R_append (Kd.int .i64) (w0 := w) w.heap.size rfl (.tmp 47) (.tmp 49) 22 3 (.int .i64 0) 8 rfl Try.underlying22 info3 rfl (by decide) (by omega) u6 O (L.length : Int) [.int .i64 (L.length : Int)] (fun k => some k ≠ (Value.slice (some ⟨g, 0, none⟩) (L.length + 1) c8).ownBlock) (fun _ => False) rfl (by first | rfl | (go_simp; done) | (go_simp; rfl)) ?aP (fun _ hk => hk.elim) ?aF ?aO ?aB ?aS ?aL ?_; (case aP => exact rfl); (case aF => exact fun k hk => Kd.fresh' (Kd.R_lt n7.out) k hk); (case aO => exact Kd.R_mono n6.out (fun _ hk => hk.2)); (case aB => exact nb.out); (case aS => exact below_size nb.out); (case aL => omega); intro v6b w8 ho hb hg hat; have q7 := Aside0.mk (Kd.R_after (ok := (fun _ => True)) (Kd.R_mono n7.out (fun _ hk => ⟨trivial, hk⟩)) hg hat); have HO_6 := Aside0.mk ho; have HB := Aside0.mk hb; clear n6 n7 nb ho hb hg hat)))
              go_roundg (l0.length - (i + 1))
              case measure => omega
              case rel => exact ⟨i + 1, O ++ [(L.length : Int)], L3, by go_num, by omega, Nat.le_refl _, HA, by rw [List.length_append, List.length_singleton]; omega, hl3, HO_6, ⟨Kd.R_mono q7.out (fun _ hk => hk.2)⟩, HB⟩
            · rw [if_neg hk] at hA
              obtain ⟨j, rfl⟩ := Int.eq_ofNat_of_zero_le (show 0 ≤ kk by omega)
              have d3 : decide ((j : Int) < 0) = false := decide_eq_false (by omega)
              rw [Int.toNat_natCast] at hA
              have hjl : j < L.length := by omega
              obtain ⟨ov, hov⟩ : ∃ ov, rd L (j : Int) = ov := ⟨_, rfl⟩
              rw [hov] at hA
              have HA := Aside0.mk hA
              clear hA
              go_wp2_with (first | (go_at_call 47; refine hgv.mono ?_; rintro e w6 ⟨rfl, q, hq⟩; have m7 := Aside0.mk (show (Kd.int .i64).R 3 w6 w.heap.size (fun k => some k ≠ (u6 : Value).ownBlock) (.slice A7 L.length c7) L from by rw [hq]; exact Kd.R_drewN (Kd.R_alloc HO_7.out _) q); have m6 := Aside0.mk (show (Kd.int .i64).R 3 w6 w.heap.size (fun k => True ∧ some k ≠ (Value.slice A7 L.length c7).ownBlock) u6 O from by rw [hq]; exact Kd.R_drewN (Kd.R_alloc (Kd.R_mono HO_6.out (fun _ hk => ⟨trivial, hk⟩)) _) q); have mb := Aside0.mk (show Below w.heap.size w w6 from by rw [hq]; exact pw_below_drewN (below_alloc HB.out _) q); have mx := Aside0.mk (show w6.heap[wr.heap.size]? = some (.cells #[.int .i64 rail] 3 (0, 0)) from by rw [hq]; exact blk_drewN HX.out q); clear HO_6 HO_7 HB HX hq; have HO_6 := m6; have HO_7 := m7; have HB := mb; have hboxc := cell_of_one mx.out; clear m6 m7 mb mx))
              obtain ⟨g, cap, hv, hg1, hg2, hcells⟩ := Kd.R_form HO_7.out (by omega)
              injection hv with ha hn hcap
              subst ha hcap
              obtain ⟨hx, hfz⟩ := Kd.R_celln (enc := Value.int .i64) (h1 := fun _ => rfl) (0 : Int) HO_7.out (j : Int) (by omega) (by omega)
              have hput := Kd.R_putg HO_7.out (j : Int) (wrap64 (ov - rail))
              rw [show rdOf (0 : Int) L (j : Int) = ov from hov] at hx
              rw [Int.toNat_natCast] at hx hfz hput
              have HPut := Aside0.mk hput
              have HG := Aside0.mk hg1
              have e0 := eq_true (show 0 ≤ (j : Int) by omega)
              have e1 := eq_true (show (j : Int) < (L.length : Int) by omega)
              clear hput hg1 hg2 hcells hn
              go_region
              have m7 := Kd.R_drew HPut.out.1
              have m6 := Kd.R_drew (Kd.R_after (v := .slice (some ⟨g, 0, none⟩) L.length c7) (v1 := .slice (some ⟨g, 0, none⟩) L.length c7) (ok := fun _ => True) HO_6.out HPut.out.2 (.inl rfl))
              have mb := below_drew1 (below_set (g := g) (j := j) (v := .int .i64 (wrap64 (ov - rail))) HB.out HG.out)
              generalize (w6.setCell ⟨g, j, none⟩ (.int .i64 (wrap64 (ov - rail)))).drew = w7 at m7 m6 mb ⊢
              have hl3 : (L.set j (wrap64 (ov - rail))).length ≤ i + 1 := by rw [List.length_set]; omega
              generalize L.set j (wrap64 (ov - rail)) = L3 at m7 HA hl3
              have n7 := Aside0.mk m7
              have n6 := Aside0.mk m6
              have nb := Aside0.mk mb
              clear HO_6 HO_7 HB HPut HG m7 m6 mb
              go_wp2_with (first | ((with_reducible refine gate_builtin (b := .append) (xs := #[.tmp 47, .tmp 49]) rfl ?_); go_loud (at_builtin; refine Kd.R_append (Kd.int .i64) (w0 := w) w.heap.size rfl (.tmp 47) (.tmp 49) 22 3 (.int .i64 0) 8 rfl Try.underlying22 info3 rfl (by decide) (by omega) u6 O (j : Int) [.int .i64 (j : Int)] (fun k => some k ≠ (Value.slice (some ⟨g, 0, none⟩) L.length c7).ownBlock) (fun _ => False) rfl (by first | rfl | (go_simp; done) | (go_simp; rfl)) ?aP (fun _ hk => hk.elim) ?aF ?aO ?aB ?aS ?aL ?_; (case aP => exact rfl); (case aF => exact fun k hk => Kd.fresh' (Kd.R_lt n7.out) k hk); (case aO => exact Kd.R_mono n6.out (fun _ hk => hk.2)); (case aB => exact nb.out); (case aS => exact below_size nb.out); (case aL => omega); intro v6b w8 ho hb hg hat; have q7 := Aside0.mk (Kd.R_after (ok := (fun _ => True)) (Kd.R_mono n7.out (fun _ hk => ⟨trivial, hk⟩)) hg hat); have HO_6 := Aside0.mk ho; have HB := Aside0.mk hb; clear n6 n7 nb ho hb hg hat)))
              go_roundg (l0.length - (i + 1))
              case measure => omega
              case rel => exact ⟨i + 1, O ++ [(j : Int)], L3, by go_num, by omega, Nat.le_refl _, HA, by rw [List.length_append, List.length_singleton]; omega, hl3, HO_6, ⟨Kd.R_mono q7.out (fun _ hk => hk.2)⟩, HB⟩
          · have d2 : decide ((i : Int) < (l0.length : Int)) = false := decide_eq_false (by omega)
            have hA := HA.out
            rw [List.drop_eq_nil_of_le (by omega)] at hA
            unfold impl_FirstFit.l0 at hA
            obtain rfl := hA
            clear HA
            go_wp2
            go_ret2
            exact ⟨_, rfl, Kd.R_mono HO_6.out (fun _ _ => trivial), HB.out⟩
      · rw [if_neg hlen] at H
        exact absurd H (by simp)

end Go.Proofs.Ytcnancjkajbldaa.P
