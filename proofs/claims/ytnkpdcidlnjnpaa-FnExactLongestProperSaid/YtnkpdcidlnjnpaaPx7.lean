-- Printed by wip/pp.py of this claim's session (the kit's print over functions that are given by hand). Not trusted: Lean checks it.
import Derived.Test.YtnkpdcidlnjnpaaPx0
import Derived.Test.YtnkpdcidlnjnpaaPx1
import Derived.Test.YtnkpdcidlnjnpaaPx5
namespace Go.Proofs.Ytnkpdcidlnjnpaa.P
open Go.RowKit Go.Proofs.YtnkpdcidlnjnpaaW.PrintWords Go.Proofs.YtnkpdcidlnjnpaaW.PrintLast Go.Proofs.YtnkpdcidlnjnpaaW.PrintMore
attribute [local go_sem] max2_int min2_int max_two min_two max_three min_three max_four min_four   -- for this text's walks alone
set_option linter.unusedVariables false
set_option linter.unusedSimpArgs false

/-! ### spec_LongestProper: function 15 (given) -/
def spec_LongestProper.l1 : Nat → ByteArray → Nat → Int → Int → Nat → Option (Int × Int)
  | 0, _, _, _, _, _ => none
  | k + 1, s, i, x5, x6, j => if j ≤ s.size then ((spec_coProper.f k (s.extract i j) false).bind fun t => (if t = true then (if (j : Int) - (i : Int) > x6 then (spec_LongestProper.l1 k s i (i : Int) ((j : Int) - (i : Int)) (j + 1)) else (spec_LongestProper.l1 k s i x5 x6 (j + 1))) else (some (x5, x6)))) else (some (x5, x6))
def spec_LongestProper.l0 : Nat → ByteArray → Nat → Int → Int → Option (Int × Int)
  | 0, _, _, _, _ => none
  | k + 1, s, i, x5, x6 => if i < s.size then ((spec_LongestProper.l1 k s i x5 x6 (i + 1)).bind fun p => (spec_LongestProper.l0 k s (i + 1) p.1 p.2)) else (some (x5, x6))
def spec_LongestProper.f (k : Nat) (a0 : ByteArray) : Option (Int × Int × Bool) := (spec_stGood.f k a0).bind fun t => (if t = true then (if plainB a0 = true then ((spec_LongestProper.l0 k a0 0 0 0).bind fun p => (if p.2 = 0 then (some (0, 0, false)) else (some (p.1, p.2, true)))) else (none)) else (some (0, 0, false)))
theorem spec_LongestProper.mono1 : ∀ k s i x5 x6 j, LeO (spec_LongestProper.l1 k s i x5 x6 j) (spec_LongestProper.l1 (k + 1) s i x5 x6 j)
  | 0 => fun _ _ _ _ _ => LeO.none _
  | k + 1 => by
    have ih := spec_LongestProper.mono1 k
    intro s i x5 x6 j
    unfold spec_LongestProper.l1
    repeat' first
      | (with_reducible exact ih _ _ _ _ _)
      | (with_reducible exact spec_coProper.mono _ _ _)
      | (with_reducible exact LeO.refl _)
      | (with_reducible refine LeO.ite ?_ ?_)
      | (with_reducible refine LeO.bind ?_ (fun _ => ?_))
theorem spec_LongestProper.mono0 : ∀ k s i x5 x6, LeO (spec_LongestProper.l0 k s i x5 x6) (spec_LongestProper.l0 (k + 1) s i x5 x6)
  | 0 => fun _ _ _ _ => LeO.none _
  | k + 1 => by
    have ih := spec_LongestProper.mono0 k
    intro s i x5 x6
    unfold spec_LongestProper.l0
    repeat' first
      | (with_reducible exact ih _ _ _ _)
      | (with_reducible exact spec_LongestProper.mono1 _ _ _ _ _ _)
      | (with_reducible exact LeO.refl _)
      | (with_reducible refine LeO.ite ?_ ?_)
      | (with_reducible refine LeO.bind ?_ (fun _ => ?_))
theorem spec_LongestProper.mono : ∀ a0 k, LeO (spec_LongestProper.f k a0) (spec_LongestProper.f (k + 1) a0) := by
  intro a0 k
  unfold spec_LongestProper.f
  repeat' first
    | (with_reducible exact spec_stGood.mono _ _)
    | (with_reducible exact spec_LongestProper.mono0 _ _ _ _ _)
    | (with_reducible exact LeO.refl _)
    | (with_reducible refine LeO.ite ?_ ?_)
    | (with_reducible refine LeO.bind ?_ (fun _ => ?_))
set_option maxHeartbeats 4000000 in
set_option maxRecDepth 100000 in
theorem spec_LongestProper.calls (k : Nat) (a0 : ByteArray) (r1 : Int) (r2 : Int) (r3 : Bool) (w : World) (h : spec_LongestProper.f k a0 = some (r1, r2, r3)) :
    Calls Try.prog 15 #[.string a0] w fun e w' => e = .returned (.tuple #[.int .i64 r1, .int .i64 r2, .bool r3]) ∧ Below w.heap.size w w' := by
  unfold spec_LongestProper.f at h
  obtain ⟨t, ht, H⟩ := Option.bind_eq_some_iff.mp h
  have hcall := fun W => spec_stGood.calls k a0 t W ht
  clear h ht
  cases t with
  | false =>
    simp only [Bool.false_eq_true, if_false] at H
    obtain ⟨rfl, rfl, rfl⟩ : 0 = r1 ∧ 0 = r2 ∧ false = r3 := by simpa using H
    clear H
    go_enter Try.func15, Try.ntmps15
    go_wp2_with (go_at_call 26; refine (hcall _).mono ?_; rintro e w' ⟨rfl, q', rfl⟩)
    go_ret3
    exact ⟨rfl, pw_below_drewN (Below.refl _ w) _⟩
  | true =>
    simp only [if_true] at H
    by_cases hp : plainB a0 = true
    · rw [if_pos hp] at H
      have hbyte := @plain_byte a0 hp
      have hsz : a0.size ≤ 1000 := by unfold plainB at hp; rw [Bool.and_eq_true, decide_eq_true_eq] at hp; exact hp.1
      obtain ⟨⟨q1, q2⟩, hq, H⟩ := Option.bind_eq_some_iff.mp H
      have HL := Aside0.mk hq
      have HR := Aside0.mk H
      have HB := Aside0.mk hbyte
      clear H hq hbyte hp
      go_enter Try.func15, Try.ntmps15
      go_wp2_with (go_at_call 26; refine (hcall _).mono ?_; rintro e w' ⟨rfl, q', rfl⟩)
      go_loopg [5, 6] a0.size (fun gg v5 v6 wr => ∃ (kk i : Nat) (x5 x6 : Int), v5 = .int .i64 x5 ∧ v6 = .int .i64 x6 ∧ i ≤ a0.size ∧ a0.size - i ≤ gg ∧ Aside0 (spec_LongestProper.l0 kk a0 i x5 x6 = some (q1, q2)) ∧ Aside0 (wr.heap[w.heap.size]? = some (.stringIter a0 i)) ∧ Aside0 (Below w.heap.size w wr))
      case atStart => exact ⟨k, 0, 0, 0, rfl, rfl, Nat.zero_le _, by omega, HL, ⟨World.iter_heap _ _ _⟩, ⟨below_alloc (pw_below_drewN (Below.refl _ w) _) _⟩⟩
      case round =>
        obtain ⟨kk, i, x5, x6, rfl, rfl, hi, hg, HA, HH, HW⟩ := hrel
        have HA2 := HA.out
        clear HA
        cases kk with
        | zero => exact absurd HA2 (by simp [spec_LongestProper.l0])
        | succ kk =>
        simp only [spec_LongestProper.l0] at HA2
        by_cases hlt : i < a0.size
        · rw [if_pos hlt] at HA2
          obtain ⟨⟨p1, p2⟩, hi1, hi2⟩ := Option.bind_eq_some_iff.mp HA2
          have HI := Aside0.mk hi1
          have HJ := Aside0.mk hi2
          have hnx : ∀ ty, (Instr.next (.pointer (some ⟨w.heap.size, 0, none⟩)) true ty).run Try.prog wr = _ := fun ty => Lib.run_next_ascii_at wr w.heap.size a0 i ty HH.out hlt (HB.out i hlt)
          have HN : Aside0 ((wr.iterAt w.heap.size a0 (i + 1)).heap[w.heap.size]? = some (.stringIter a0 (i + 1))) := ⟨Lib.iterAt_heap _ _ _ _ _ HH.out⟩
          have HV : Aside0 (Below w.heap.size w (wr.iterAt w.heap.size a0 (i + 1))) := ⟨Lib.below_iterAt HW.out (Nat.le_refl _) _ _⟩
          clear HA2 HH HW hi1 hi2
          generalize wr.iterAt w.heap.size a0 (i + 1) = W1 at hnx HN HV
          go_wp2
          go_loopg [5, 6, 8] (a0.size + 1) (fun g2 v5 v6 v8 wx => ∃ (k2 j : Nat) (x5 x6 : Int), v5 = .int .i64 x5 ∧ v6 = .int .i64 x6 ∧ v8 = .int .i64 (j : Int) ∧ i < j ∧ j ≤ a0.size + 1 ∧ a0.size + 1 - j ≤ g2 ∧ Aside0 (spec_LongestProper.l1 k2 a0 i x5 x6 j = some (p1, p2)) ∧ Aside0 (wx.heap[w.heap.size]? = some (.stringIter a0 (i + 1))) ∧ Aside0 (Below w.heap.size w wx))
          case atStart => exact ⟨kk, i + 1, x5, x6, rfl, rfl, by go_num, by omega, by omega, by omega, HI, HN, HV⟩
          case round =>
            obtain ⟨k2, j, y5, y6, rfl, rfl, rfl, hj1, hj2, hg2, HC, HN2, HV2⟩ := hrel
            have HC2 := HC.out
            clear HC HI HN HV
            cases k2 with
            | zero => exact absurd HC2 (by simp [spec_LongestProper.l1])
            | succ k2 =>
            simp only [spec_LongestProper.l1] at HC2
            by_cases hjl : j ≤ a0.size
            · rw [if_pos hjl] at HC2
              obtain ⟨t, ht, HD⟩ := Option.bind_eq_some_iff.mp HC2
              have hcp := fun W => spec_coProper.calls k2 (a0.extract i j) false t W ht
              clear HC2 ht
              have e1 := eq_true (show (j : Int) ≤ (a0.size : Int) by omega)
              have e2 := eq_true (show 0 ≤ (i : Int) by omega)
              have e3 := eq_true (show (i : Int) ≤ (j : Int) by omega)
              have e4 := eq_true (show j ≤ a0.size by omega)
              have e5 := eq_true (show i ≤ j by omega)
              have d1 : decide (j ≤ a0.size) = true := decide_eq_true (by omega)
              have d2 : decide ((j : Int) ≤ (a0.size : Int)) = true := decide_eq_true (by omega)
              cases t with
              | true =>
                simp only [if_true] at HD
                by_cases hlong : (j : Int) - (i : Int) > y6
                · rw [if_pos hlong] at HD
                  have HE := Aside0.mk HD
                  clear HD
                  have hb1 : decide (y6 < (j : Int) - (i : Int)) = true := decide_eq_true (by omega)
                  clear hlong
                  go_wp2_with (go_at_call 24; refine (hcp _).mono ?_; rintro e w' ⟨rfl, q', rfl⟩)
                  go_roundg (a0.size - j)
                  case measure => omega
                  case rel => exact ⟨k2, j + 1, _, _, rfl, rfl, by go_num, by omega, by omega, by omega, HE, HN2, ⟨pw_below_drewN HV2.out _⟩⟩
                · rw [if_neg hlong] at HD
                  have HE := Aside0.mk HD
                  clear HD
                  have hb1 : decide (y6 < (j : Int) - (i : Int)) = false := decide_eq_false (by omega)
                  clear hlong
                  go_wp2_with (go_at_call 24; refine (hcp _).mono ?_; rintro e w' ⟨rfl, q', rfl⟩)
                  go_roundg (a0.size - j)
                  case measure => omega
                  case rel => exact ⟨k2, j + 1, _, _, rfl, rfl, by go_num, by omega, by omega, by omega, HE, HN2, ⟨pw_below_drewN HV2.out _⟩⟩
              | false =>
                simp only [Bool.false_eq_true, if_false] at HD
                obtain ⟨rfl, rfl⟩ : y5 = p1 ∧ y6 = p2 := by simpa using HD
                clear HD
                go_wp2_with (go_at_call 24; refine (hcp _).mono ?_; rintro e w' ⟨rfl, q', rfl⟩)
                go_roundg (a0.size - (i + 1))
                case measure => omega
                case rel => exact ⟨kk, i + 1, _, _, rfl, rfl, by omega, Nat.le_refl _, HJ, HN2, ⟨pw_below_drewN HV2.out _⟩⟩
            · rw [if_neg hjl] at HC2
              obtain ⟨rfl, rfl⟩ : y5 = p1 ∧ y6 = p2 := by simpa using HC2
              clear HC2
              have e1 : ((j : Int) ≤ (a0.size : Int)) = False := eq_false (by omega)
              have d1 : decide (j ≤ a0.size) = false := decide_eq_false (by omega)
              have d2 : decide ((j : Int) ≤ (a0.size : Int)) = false := decide_eq_false (by omega)
              go_wp2
              go_roundg (a0.size - (i + 1))
              case measure => omega
              case rel => exact ⟨kk, i + 1, _, _, rfl, rfl, by omega, Nat.le_refl _, HJ, HN2, HV2⟩
        · rw [if_neg hlt] at HA2
          have hnx : ∀ ty, (Instr.next (.pointer (some ⟨w.heap.size, 0, none⟩)) true ty).run Try.prog wr = _ := fun ty => Lib.run_next_end_at wr w.heap.size a0 i ty HH.out hlt
          obtain ⟨rfl, rfl⟩ : x5 = q1 ∧ x6 = q2 := by simpa using HA2
          clear HA2 HH HL
          have H := HR.out
          clear HR
          by_cases hz : x6 = 0
          · simp only [hz, if_true] at H
            obtain ⟨rfl, rfl, rfl⟩ : 0 = r1 ∧ 0 = r2 ∧ false = r3 := by simpa using H
            clear H
            subst hz
            go_wp2
            go_ret3
            exact ⟨rfl, HW.out⟩
          · simp only [hz, if_false] at H
            obtain ⟨rfl, rfl, rfl⟩ : x5 = r1 ∧ x6 = r2 ∧ true = r3 := by simpa using H
            clear H
            have hz2 : (x6 == 0) = false := beq_eq_false_iff_ne.mpr hz
            clear hz
            go_wp2
            go_ret3
            exact ⟨rfl, HW.out⟩
    · rw [if_neg hp] at H
      exact absurd H (by simp)

end Go.Proofs.Ytnkpdcidlnjnpaa.P
