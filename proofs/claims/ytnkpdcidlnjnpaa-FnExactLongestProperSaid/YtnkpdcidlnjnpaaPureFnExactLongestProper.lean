/- For every text LongestProper gives the reference's answer: the plain part. -/
import Derived.Test.YtnkpdcidlnjnpaaPx5
import Derived.Test.YtnkpdcidlnjnpaaPx6
import Derived.Test.YtnkpdcidlnjnpaaPx7
import Derived.Test.YtnkpdcidlnjnpaaPx8
import Derived.Test.YtnkpdcidlnjnpaaMBase
import Derived.Test.YtnkpdcidlnjnpaaMFence
import Derived.Test.YtnkpdcidlnjnpaaMPlain
import Derived.Test.YtnkpdcidlnjnpaaMProper
namespace Go.Proofs.Ytnkpdcidlnjnpaa.Pure
open Go.RowKit Go.Proofs.Ytnkpdcidlnjnpaa.P Go.Proofs.YtnkpdcidlnjnpaaW.PrintWords Go.Proofs.Ytnkpdcidlnjnpaa.M
set_option linter.unusedVariables false
set_option linter.unusedSimpArgs false

theorem law_of (s : ByteArray) (r0 : Int) (r1 : Int) (r2 : Bool) (hb_s : ¬ ((s.size : Int) > 1048576)) (hs : Ev (fun k => spec_LongestProper.f k s) (r0, r1, r2)) (hi : Ev (fun k => impl_LongestProper.f k s) (r0, r1, r2)) : Ev (fun k => laws_FnExactLongestProper.f k s) true := by
  unfold laws_FnExactLongestProper.f
  repeat (first
    | exact Ev.now _
    | (with_reducible refine Ev.bind hs ?_)
    | (with_reducible refine Ev.bind hi ?_)
    | simp only [if_true, if_false, bne_self_eq_false, Bool.false_eq_true, Option.bind_some, hb_s]
    )

theorem inner (s : ByteArray) (hs : s.size ≤ 20) (i : Nat) (hi : i < s.size) (d : Nat) : ∀ (j : Nat) (x5 x6 : Int), i < j → j ≤ s.size + 1 → s.size + 1 - j = d → 0 ≤ x6 → (x6 = 0 → x5 = 0) →
    ∃ p1 p2 : Int, Ev (fun k => spec_LongestProper.l1 k s i x5 x6 j) (p1, p2) ∧ 0 ≤ p2 ∧ (p2 = 0 → p1 = 0) ∧
      ∀ r, Ev (fun k => impl_LongestProper.l0 k s p1 p2 (s.size : Int) ((i + 1 : Nat) : Int)) r → Ev (fun k => impl_LongestProper.l1 k s x5 x6 (i : Int) (j : Int) (s.size : Int) (i : Int)) r := by
  have hwi : wrap64 ((i : Int) + 1) = ((i + 1 : Nat) : Int) := by rw [wrap_id (by omega) (by omega)]; rfl
  induction d with
  | zero =>
    intro j x5 x6 h1 h2 hd h3 h4
    refine ⟨x5, x6, Ev.step (f := fun _ => some _) (fun k => ?_) (Ev.now _), h3, h4, fun r hr => ?_⟩
    · simp only [spec_LongestProper.l1]
      rw [if_neg (by omega)]
    · refine Ev.step (f := fun k => impl_LongestProper.j2 k s x5 x6 (i : Int) (j : Int) (s.size : Int) (i : Int) false) (fun k => ?_) (Ev.step (fun k => ?_) hr)
      · simp only [impl_LongestProper.l1]
        rw [if_neg (by omega)]
      · simp only [impl_LongestProper.j2]
        rw [if_neg (by simp), hwi]
  | succ d ih =>
    intro j x5 x6 h1 h2 hd h3 h4
    have hj : j ≤ s.size := by omega
    have hwj : wrap64 ((j : Int) + 1) = ((j + 1 : Nat) : Int) := by rw [wrap_id (by omega) (by omega)]; rfl
    have hwd : wrap64 ((j : Int) - (i : Int)) = (j : Int) - (i : Int) := wrap_id (by omega) (by omega)
    have hsz : (s.extract i j).size = j - i := by rw [ByteArray.size_extract]; omega
    obtain ⟨t, e1, e2⟩ := proper_ev (s.extract i j) false (by omega) (by omega)
    have himpl : ∀ r, Ev (fun k => impl_LongestProper.j2 k s x5 x6 (i : Int) (j : Int) (s.size : Int) (i : Int) t) r → Ev (fun k => impl_LongestProper.l1 k s x5 x6 (i : Int) (j : Int) (s.size : Int) (i : Int)) r := by
      intro r hr
      refine Ev.step (f := fun k => (impl_isProper.f k (s.extract i j) false).bind fun t132 => impl_LongestProper.j2 k s x5 x6 (i : Int) (j : Int) (s.size : Int) (i : Int) t132) (fun k => ?_) (Ev.bind e2 hr)
      simp only [impl_LongestProper.l1]
      rw [if_pos (by omega), if_pos (by omega), if_pos (by omega), Int.toNat_natCast, Int.toNat_natCast]
    have hspec : ∀ r, Ev (fun k => (if t = true then (if (j : Int) - (i : Int) > x6 then (spec_LongestProper.l1 k s i (i : Int) ((j : Int) - (i : Int)) (j + 1)) else (spec_LongestProper.l1 k s i x5 x6 (j + 1))) else (some (x5, x6)))) r → Ev (fun k => spec_LongestProper.l1 k s i x5 x6 j) r := by
      intro r hr
      refine Ev.step (f := fun k => (spec_coProper.f k (s.extract i j) false).bind fun t => (if t = true then (if (j : Int) - (i : Int) > x6 then (spec_LongestProper.l1 k s i (i : Int) ((j : Int) - (i : Int)) (j + 1)) else (spec_LongestProper.l1 k s i x5 x6 (j + 1))) else (some (x5, x6)))) (fun k => ?_) (Ev.bind e1 hr)
      simp only [spec_LongestProper.l1]
      rw [if_pos hj]
    cases t with
    | false =>
      refine ⟨x5, x6, hspec _ (Ev.now _), h3, h4, fun r hr => himpl r (Ev.step (fun k => ?_) hr)⟩
      simp only [impl_LongestProper.j2]
      rw [if_neg (by simp), hwi]
    | true =>
      by_cases hg : (j : Int) - (i : Int) > x6
      · obtain ⟨p1, p2, a1, a2, a3, a4⟩ := ih (j + 1) (i : Int) ((j : Int) - (i : Int)) (by omega) (by omega) (by omega) (by omega) (by omega)
        refine ⟨p1, p2, hspec _ ?_, a2, a3, fun r hr => himpl r (Ev.step (fun k => ?_) (a4 r hr))⟩
        · simp only [if_true, hg]; exact a1
        · simp only [impl_LongestProper.j2]
          rw [if_pos trivial, hwd, if_pos hg, hwj]
      · obtain ⟨p1, p2, a1, a2, a3, a4⟩ := ih (j + 1) x5 x6 (by omega) (by omega) (by omega) h3 h4
        refine ⟨p1, p2, hspec _ ?_, a2, a3, fun r hr => himpl r (Ev.step (fun k => ?_) (a4 r hr))⟩
        · simp only [if_true, hg, if_false]; exact a1
        · simp only [impl_LongestProper.j2]
          rw [if_pos trivial, hwd, if_neg hg, hwj]
theorem outer (s : ByteArray) (hs : s.size ≤ 20) (d : Nat) : ∀ (i : Nat) (x5 x6 : Int), i ≤ s.size → s.size - i = d → 0 ≤ x6 → (x6 = 0 → x5 = 0) →
    ∃ q1 q2 : Int, Ev (fun k => spec_LongestProper.l0 k s i x5 x6) (q1, q2) ∧ 0 ≤ q2 ∧ (q2 = 0 → q1 = 0) ∧ Ev (fun k => impl_LongestProper.l0 k s x5 x6 (s.size : Int) (i : Int)) (q1, q2, decide (q2 > 0)) := by
  induction d with
  | zero =>
    intro i x5 x6 hi hd h3 h4
    refine ⟨x5, x6, Ev.step (f := fun _ => some _) (fun k => ?_) (Ev.now _), h3, h4, Ev.step (f := fun _ => some _) (fun k => ?_) (Ev.now _)⟩
    · simp only [spec_LongestProper.l0]
      rw [if_neg (by omega)]
    · simp only [impl_LongestProper.l0]
      rw [if_neg (by omega)]
  | succ d ih =>
    intro i x5 x6 hi hd h3 h4
    have hlt : i < s.size := by omega
    obtain ⟨p1, p2, a1, a2, a3, a4⟩ := inner s hs i hlt _ (i + 1) x5 x6 (by omega) (by omega) rfl h3 h4
    obtain ⟨q1, q2, b1, b2, b3, b4⟩ := ih (i + 1) p1 p2 (by omega) (by omega) a2 a3
    refine ⟨q1, q2, ?_, b2, b3, ?_⟩
    · refine Ev.step (f := fun k => (spec_LongestProper.l1 k s i x5 x6 (i + 1)).bind fun p => spec_LongestProper.l0 k s (i + 1) p.1 p.2) (fun k => ?_) (Ev.bind a1 b1)
      simp only [spec_LongestProper.l0]
      rw [if_pos hlt]
    · refine Ev.step (fun k => ?_) (a4 _ b4)
      simp only [impl_LongestProper.l0]
      rw [if_pos (by omega), wrap_id (by omega) (by omega)]
      rfl
theorem FnExactLongestProper : laws_FnExactLongestProper.Pure := by
  intro s _
  refine Ev.rounds ?_
  by_cases hs : (s.size : Int) > 1048576
  · unfold laws_FnExactLongestProper.f
    simp only [hs, if_true]; exact Ev.now _
  have h1 := stGood_ev s
  have h2 := isFence_f s
  cases hb : fenceB s
  · rw [hb] at h1 h2
    refine law_of s 0 0 false hs ?_ ?_
    · unfold spec_LongestProper.f
      exact Ev.bind h1 (Ev.now _)
    · unfold impl_LongestProper.f
      rw [h2]; exact Ev.now _
  · rw [hb] at h1 h2
    have hz := fence_size hb
    have hp := fence_plain hb
    obtain ⟨q1, q2, a1, a2, a3, a4⟩ := outer s hz.2 _ 0 0 0 (Nat.zero_le _) rfl (by omega) (fun _ => rfl)
    refine law_of s q1 q2 (decide (q2 > 0)) hs ?_ ?_
    · unfold spec_LongestProper.f
      refine Ev.bind h1 ?_
      simp only [if_true, hp]
      refine Ev.bind a1 ?_
      by_cases hq : q2 = 0
      · simp only [hq, if_true]
        rw [a3 hq]
        exact Ev.now _
      · simp only [hq, if_false]
        exact Ev.const (by simp; omega)
    · unfold impl_LongestProper.f
      rw [h2]
      exact a4

end Go.Proofs.Ytnkpdcidlnjnpaa.Pure
