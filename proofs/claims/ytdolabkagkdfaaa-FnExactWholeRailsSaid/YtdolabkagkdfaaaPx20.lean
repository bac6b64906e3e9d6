-- Printed by wip/pp.py of this claim's session (the kit's print over functions that are given by hand). Not trusted: Lean checks it.
import Derived.Test.YtdolabkagkdfaaaPx0
import Derived.Test.YtdolabkagkdfaaaPx17
import Derived.Test.YtdolabkagkdfaaaPx19
namespace Go.Proofs.Ytdolabkagkdfaaa.P
open Go.RowKit Go.Proofs.YtdolabkagkdfaaaW.PrintWords Go.Proofs.YtdolabkagkdfaaaW.PrintLast Go.Proofs.YtdolabkagkdfaaaW.PrintMore
attribute [local go_sem] max2_int min2_int max_two min_two max_three min_three max_four min_four   -- for this text's walks alone
set_option linter.unusedVariables false
set_option linter.unusedSimpArgs false

/-! ### impl_WholeRails: function 40 (given) -/
def impl_WholeRails.l0 (k : Nat) : Nat → List Int → Nat → Option (List Int × Bool)
  | 0, cur, _ => some (cur, true)
  | d + 1, cur, i => (impl_root.f k (cur.getD i 0)).bind fun b => (if b.2 = true then impl_WholeRails.l0 k d (cur.set i b.1) (i + 1) else some ([], false))
def impl_WholeRails.f (k : Nat) (l0 : List Int) (a1 : Int) : Option (List Int × Bool) := (impl_SquaresOfRails.f k l0 a1).bind fun b => (if b.2 = true then impl_WholeRails.l0 k b.1.length b.1 0 else some ([], false))
theorem impl_WholeRails.mono0 (k : Nat) : ∀ d cur i, LeO (impl_WholeRails.l0 k d cur i) (impl_WholeRails.l0 (k + 1) d cur i)
  | 0, _, _ => LeO.refl _
  | d + 1, cur, i => by
    have ih := impl_WholeRails.mono0 k d
    unfold impl_WholeRails.l0
    repeat' first
      | (with_reducible exact ih _ _)
      | (with_reducible exact impl_root.mono _ _)
      | (with_reducible exact LeO.refl _)
      | (with_reducible refine LeO.ite ?_ ?_)
      | (with_reducible refine LeO.bind ?_ (fun _ => ?_))
theorem impl_WholeRails.mono : ∀ a0 a1 k, LeO (impl_WholeRails.f k a0 a1) (impl_WholeRails.f (k + 1) a0 a1) := by
  intro a0 a1 k
  unfold impl_WholeRails.f
  repeat' first
    | (with_reducible exact impl_SquaresOfRails.mono _ _ _)
    | (with_reducible exact impl_WholeRails.mono0 _ _ _ _)
    | (with_reducible exact LeO.refl _)
    | (with_reducible refine LeO.ite ?_ ?_)
    | (with_reducible refine LeO.bind ?_ (fun _ => ?_))
set_option maxHeartbeats 4000000 in
set_option maxRecDepth 100000 in
theorem impl_WholeRails.calls (k : Nat) (A0 : Option Addr) (c0 : Nat) (l0 : List Int) (a1 : Int) (r1 : List Int) (r2 : Bool) (w : World) (hr0 : Kd.C (Kd.int .i64) w A0 l0.length l0) (hc0 : l0.length ≤ c0) (h : impl_WholeRails.f k l0 a1 = some (r1, r2)) :
    Calls Try.prog 40 #[.slice A0 l0.length c0, .int .i64 a1] w fun e w' => ∃ v0_ : Value, e = .returned (.tuple #[v0_, .bool r2]) ∧ Kd.R (Kd.int .i64) 3 w' w.heap.size (fun _ => True) v0_ r1 ∧ Below w.heap.size w w' := by
  unfold impl_WholeRails.f at h
  obtain ⟨⟨lst, ok⟩, ht, H⟩ := Option.bind_eq_some_iff.mp h
  have hcall := impl_SquaresOfRails.calls k A0 c0 l0 a1 lst ok w hr0 hc0 ht
  clear h ht hr0 hc0
  cases ok with
  | false =>
    simp only [Bool.false_eq_true, if_false] at H
    obtain ⟨rfl, rfl⟩ : [] = r1 ∧ false = r2 := by simpa using H
    clear H
    go_enter Try.func40, Try.ntmps40
    go_wp2_with (go_at_call 38; refine hcall.mono ?_; rintro e w1 ⟨u, rfl, hR, hb⟩)
    go_ret2
    exact ⟨_, rfl, Kd.R_nil _ _ _ _ _, hb⟩
  | true =>
    simp only [if_true] at H
    have HH := Aside0.mk H
    clear H
    go_enter Try.func40, Try.ntmps40
    go_wp2_with (go_at_call 38; refine hcall.mono ?_; rintro e w1 ⟨u, rfl, hR, hb⟩; obtain ⟨Au, cu, rfl⟩ := Kd.R_slice hR)
    have hmax := Kd.C_max (Kd.R_reads' hR).2.2
    have HR := Aside0.mk hR
    have HB := Aside0.mk hb
    clear hR hb hcall
    go_loopg [7, 20] lst.length (fun gg v7 v20 wr => ∃ (i : Nat) (cur : List Int), v7 = .bool true ∧ v20 = .int .i64 (i : Int) ∧ Aside0 (cur.length = lst.length) ∧ i ≤ lst.length ∧ lst.length - i ≤ gg ∧ Aside0 (impl_WholeRails.l0 k (lst.length - i) cur i = some (r1, r2)) ∧ Aside0 (Kd.R (Kd.int .i64) 3 wr w.heap.size (fun _ => True) (.slice Au lst.length cu) cur) ∧ Aside0 (Below w.heap.size w wr))
    case atStart => exact ⟨0, lst, rfl, by go_num, ⟨rfl⟩, Nat.zero_le _, by omega, HH, HR, HB⟩
    case round =>
      obtain ⟨i, cur, rfl, rfl, HL, hi, hg, HA, HC, HW⟩ := hrel
      clear HH HR HB
      by_cases hlt : i < lst.length
      · have hltz := eq_true (show (i : Int) < (lst.length : Int) by omega)
        have h0z := eq_true (show 0 ≤ (i : Int) by omega)
        have d1 : decide ((i : Int) < (lst.length : Int)) = true := decide_eq_true (by omega)
        have hd : lst.length - i = (lst.length - (i + 1)) + 1 := by omega
        have HA2 := HA.out
        rw [hd, impl_WholeRails.l0] at HA2
        obtain ⟨⟨b1, b2⟩, hroot, HA3⟩ := Option.bind_eq_some_iff.mp HA2
        have hcr := fun W => impl_root.calls k (cur.getD i 0) b1 b2 W hroot
        have hC := HC.out
        have hLen := HL.out
        obtain ⟨g, cap, hv, hg1, hg2, hcells⟩ := Kd.R_form hC (by omega)
        injection hv with ha hn hcap
        subst ha hcap
        obtain ⟨hx, hfz⟩ := Kd.R_celln (enc := Value.int .i64) (h1 := fun _ => rfl) (0 : Int) hC (i : Int) (by omega) (by omega)
        have hput := Kd.R_putn (enc := Value.int .i64) (h1 := fun _ => rfl) hC (i : Int) b1
        rw [show rdOf (0 : Int) cur (i : Int) = cur.getD i 0 from by simp [rdOf]] at hx
        rw [Int.toNat_natCast] at hput
        rw [Int.toNat_natCast] at hx hfz
        have HP := Aside0.mk hput
        have HG := Aside0.mk hg1
        have HD := Aside0.mk HA3
        clear HA HA2 HA3 hroot hC hput hn hcells HC hd hLen hg2
        generalize cur.getD i 0 = x at hcr hx
        cases b2 with
        | true =>
          have HD2 := HD.out
          simp only [if_true] at HD2
          have HE := Aside0.mk HD2
          clear HD HD2
          go_wp2_with (go_at_call 61; refine (hcr _).mono ?_; rintro e w' ⟨rfl, q', rfl⟩)
          go_roundg (lst.length - (i + 1))
          case measure => omega
          case rel => exact ⟨i + 1, cur.set i b1, rfl, by go_num, ⟨by rw [List.length_set]; exact HL.out⟩, by omega, Nat.le_refl _, HE, ⟨by first | exact Kd.R_drewN HP.out _ | (have := Kd.R_drewN HP.out q'; exact this)⟩, ⟨by first | exact (pw_below_drewN HW.out _).setCell HG.out _ | exact pw_below_drewN (HW.out.setCell HG.out _) _⟩⟩
        | false =>
          have HD2 := HD.out
          simp only [Bool.false_eq_true, if_false] at HD2
          obtain ⟨rfl, rfl⟩ : [] = r1 ∧ false = r2 := by simpa using HD2
          clear HD HD2
          go_wp2_with (go_at_call 61; refine (hcr _).mono ?_; rintro e w' ⟨rfl, q', rfl⟩)
          go_ret2
          exact ⟨_, rfl, Kd.R_nil _ _ _ _ _, by first | exact (pw_below_drewN HW.out _).setCell HG.out _ | exact pw_below_drewN (HW.out.setCell HG.out _) _⟩
      · have d1 : decide ((i : Int) < (lst.length : Int)) = false := decide_eq_false (by omega)
        have e : lst.length - i = 0 := by omega
        have HA2 := HA.out
        rw [e, impl_WholeRails.l0] at HA2
        obtain ⟨rfl, rfl⟩ : cur = r1 ∧ true = r2 := by simpa using HA2
        clear HA HA2 e
        go_wp2
        go_ret2
        exact ⟨_, rfl, by rw [← HL.out] at *; exact HC.out, HW.out⟩

end Go.Proofs.Ytdolabkagkdfaaa.P
