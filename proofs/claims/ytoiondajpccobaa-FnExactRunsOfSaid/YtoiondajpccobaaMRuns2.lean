/- What LongestRun and RunsOf make of the runs. -/
import Derived.Test.YtoiondajpccobaaPx0
import Derived.Test.YtoiondajpccobaaPx13
import Derived.Test.YtoiondajpccobaaPx6
import Derived.Test.YtoiondajpccobaaPx7
import Derived.Test.YtoiondajpccobaaPx8
import Derived.Test.YtoiondajpccobaaPx9
import Derived.Test.YtoiondajpccobaaMBase
import Derived.Test.YtoiondajpccobaaMRuns
namespace Go.Proofs.Ytoiondajpccobaa.M
open Go.RowKit Go.Proofs.Ytoiondajpccobaa.P Go.Proofs.YtoiondajpccobaaW.PrintWords Go.Proofs.Ytoiondajpccobaa.M
set_option linter.unusedVariables false
set_option linter.unusedSimpArgs false

theorem filt_step (r l : List S52) (i j : Nat) (hi : i < r.length) (h : l.drop j = (r.drop i).filter fun s => !bareB s) : (bareB (rd_T52 r (i : Int)) = true → l.drop j = (r.drop (i + 1)).filter fun s => !bareB s) ∧
    (bareB (rd_T52 r (i : Int)) = false → j < l.length ∧ rd_T52 l (j : Int) = rd_T52 r (i : Int) ∧ l.drop (j + 1) = (r.drop (i + 1)).filter fun s => !bareB s) := by
  have e : rd_T52 r (i : Int) = r[i] := by
    show r.getD i z52 = r[i]
    rw [List.getD_eq_getElem?_getD, List.getElem?_eq_getElem hi]; rfl
  rw [e]
  rw [List.drop_eq_getElem_cons hi, List.filter_cons] at h
  refine ⟨fun hb => ?_, fun hb => ?_⟩
  · rw [hb] at h
    simpa using h
  · rw [hb] at h
    simp only [Bool.not_false, if_true] at h
    have hj : j < l.length := by
      rcases Nat.lt_or_ge j l.length with h1 | h1
      · exact h1
      · rw [List.drop_eq_nil_of_le h1] at h
        cases h
    rw [List.drop_eq_getElem_cons hj] at h
    injection h with h1 h2
    refine ⟨hj, ?_, h2⟩
    show l.getD j z52 = _
    rw [List.getD_eq_getElem?_getD, List.getElem?_eq_getElem hj]
    exact h1
theorem bare_true {s : S52} : bareB s = true ↔ s.f2.toList = ([46] : List UInt8) := by unfold bareB; exact beq_iff_eq
theorem longest_both (r l : List S52) (hr : r.length ≤ 20) (hl : l.length ≤ 20) (d : Nat) : ∀ (i j : Nat) (x5 x6 : Int), l.drop j = ((r.drop i).filter fun s => !bareB s) → j ≤ l.length → i ≤ r.length → r.length - i = d → 0 ≤ x6 → (x6 = 0 → x5 = 0) →
    ∃ (a b : Int) (c : Bool), Ev (fun k => spec_LongestRun.l0 k x5 x6 r (r.length : Int) (i : Int)) (a, b, c) ∧ Ev (fun k => impl_LongestRun.l0 k x5 x6 l (l.length : Int) (j : Int)) (a, b, c) := by
  induction d with
  | zero =>
    intro i j x5 x6 h hj hi hd h6 h5
    have e : i = r.length := by omega
    subst e
    rw [List.drop_length, List.filter_nil] at h
    have hjl : l.length ≤ j := by
      have := congrArg List.length h
      rw [List.length_drop, List.length_nil] at this
      omega
    by_cases hz : x6 = 0
    · have h5' := h5 hz
      subst hz
      subst h5'
      refine ⟨0, 0, false, Ev.step (f := fun _ => some _) (fun k => ?_) (Ev.now _), Ev.step (f := fun _ => some _) (fun k => ?_) (Ev.now _)⟩
      · simp only [spec_LongestRun.l0]
        rw [if_neg (by omega)]
        simp
      · simp only [impl_LongestRun.l0]
        rw [if_neg (by omega)]
        rfl
    · refine ⟨x5, x6, true, Ev.step (f := fun _ => some _) (fun k => ?_) (Ev.now _), Ev.step (f := fun _ => some _) (fun k => ?_) (Ev.now _)⟩
      · simp only [spec_LongestRun.l0]
        rw [if_neg (by omega), if_neg hz]
      · simp only [impl_LongestRun.l0]
        rw [if_neg (by omega), decide_eq_true (show x6 > 0 by omega)]
  | succ d ih =>
    intro i j x5 x6 h hj hi hd h6 h5
    have hil : i < r.length := by omega
    obtain ⟨f1, f2⟩ := filt_step r l i j hil h
    have c1 : (i : Int) < (r.length : Int) := by omega
    have c2 : 0 ≤ (i : Int) := by omega
    have w1 : wrap64 ((i : Int) + 1) = ((i + 1 : Nat) : Int) := by rw [wrap_id (by omega) (by omega)]; rfl
    have w2 : wrap64 ((j : Int) + 1) = ((j + 1 : Nat) : Int) := by rw [wrap_id (by omega) (by omega)]; rfl
    cases hb : bareB (rd_T52 r (i : Int)) with
    | true =>
      have hb2 := bare_true.mp hb
      obtain ⟨a, b, c, e1, e2⟩ := ih (i + 1) j x5 x6 (f1 hb) hj (by omega) (by omega) h6 h5
      refine ⟨a, b, c, Ev.step (fun k => ?_) e1, e2⟩
      simp only [spec_LongestRun.l0]
      rw [if_pos c1, if_pos c2, if_pos c1, if_pos hb2, w1]
    | false =>
      have hb2 : ¬ (rd_T52 r (i : Int)).f2.toList = ([46] : List UInt8) := fun e => by rw [bare_true.mpr e] at hb; cases hb
      obtain ⟨g1, g2, g3⟩ := f2 hb
      have c3 : (j : Int) < (l.length : Int) := by omega
      have c4 : 0 ≤ (j : Int) := by omega
      by_cases hq : (wrap64 ((wrap64 (((rd_T52 r (i : Int)).f1) - ((rd_T52 r (i : Int)).f0))) + 1)) > x6
      · have hq0 : 0 ≤ (wrap64 ((wrap64 (((rd_T52 r (i : Int)).f1) - ((rd_T52 r (i : Int)).f0))) + 1)) := Int.le_of_lt (Int.lt_of_le_of_lt h6 hq)
        have hq1 : (wrap64 ((wrap64 (((rd_T52 r (i : Int)).f1) - ((rd_T52 r (i : Int)).f0))) + 1)) = 0 → (rd_T52 r (i : Int)).f0 = 0 := fun e => absurd (Int.lt_of_le_of_lt h6 hq) (by rw [e]; exact Int.lt_irrefl 0)
        obtain ⟨a, b, c, e1, e2⟩ := ih (i + 1) (j + 1) _ _ g3 (by omega) (by omega) (by omega) hq0 hq1
        refine ⟨a, b, c, Ev.step (fun k => ?_) e1, Ev.step (fun k => ?_) e2⟩
        · simp only [spec_LongestRun.l0]
          rw [if_pos c1, if_pos c2, if_pos c1, if_neg hb2, if_pos hq, w1]
        · simp only [impl_LongestRun.l0]
          rw [if_pos c3, if_pos c4, if_pos c3, g2, if_pos hq, w2]
      · obtain ⟨a, b, c, e1, e2⟩ := ih (i + 1) (j + 1) x5 x6 g3 (by omega) (by omega) (by omega) h6 h5
        refine ⟨a, b, c, Ev.step (fun k => ?_) e1, Ev.step (fun k => ?_) e2⟩
        · simp only [spec_LongestRun.l0]
          rw [if_pos c1, if_pos c2, if_pos c1, if_neg hb2, if_neg hq, w1]
        · simp only [impl_LongestRun.l0]
          rw [if_pos c3, if_pos c4, if_pos c3, g2, if_neg hq, w2]
theorem coloured_ev (s : ByteArray) (r : List S52) (h : Ev (fun k => impl_runsOf.f k s) r) : Ev (fun k => impl_colouredRuns.f k s) (r.filter fun s => !bareB s) := by
  unfold impl_colouredRuns.f
  exact Ev.bind h (Ev.now _)
theorem runsOf_spec (r : List S52) (hr : r.length ≤ 20) (d : Nat) : ∀ (i : Nat) (x4 : List S52), i ≤ r.length → r.length - i = d → x4.length ≤ i → Ev (fun k => spec_RunsOf.l0 k x4 r (r.length : Int) (i : Int)) (x4 ++ ((r.drop i).filter fun s => !bareB s), true) := by
  induction d with
  | zero =>
    intro i x4 hi hd hx
    have e : i = r.length := by omega
    subst e
    refine Ev.step (f := fun _ => some _) (fun k => ?_) (Ev.now _)
    simp only [spec_RunsOf.l0]
    rw [if_neg (by omega), List.drop_length, List.filter_nil, List.append_nil]
  | succ d ih =>
    intro i x4 hi hd hx
    have hil : i < r.length := by omega
    have c1 : (i : Int) < (r.length : Int) := by omega
    have c2 : 0 ≤ (i : Int) := by omega
    have c3 : x4.length < 4398046511104 := by omega
    have w1 : wrap64 ((i : Int) + 1) = ((i + 1 : Nat) : Int) := by rw [wrap_id (by omega) (by omega)]; rfl
    have e : rd_T52 r (i : Int) = r[i] := by
      show r.getD i z52 = r[i]
      rw [List.getD_eq_getElem?_getD, List.getElem?_eq_getElem hil]; rfl
    cases hb : bareB (rd_T52 r (i : Int)) with
    | true =>
      have hb2 := bare_true.mp hb
      refine Ev.step (fun k => ?_) (evTo ?_ (ih (i + 1) x4 (by omega) (by omega) (by omega)))
      · simp only [spec_RunsOf.l0]
        rw [if_pos c1, if_pos c2, if_pos c1, if_pos hb2, w1]
      · rw [List.drop_eq_getElem_cons hil, List.filter_cons, ← e, hb]
        rfl
    | false =>
      have hb2 : ¬ (rd_T52 r (i : Int)).f2.toList = ([46] : List UInt8) := fun e => by rw [bare_true.mpr e] at hb; cases hb
      refine Ev.step (fun k => ?_) (evTo ?_ (ih (i + 1) (x4 ++ [rd_T52 r (i : Int)]) (by omega) (by omega) (by rw [List.length_append, List.length_singleton]; omega)))
      · simp only [spec_RunsOf.l0]
        rw [if_pos c1, if_pos c2, if_pos c1, if_neg hb2, if_pos c3, w1]
      · rw [List.drop_eq_getElem_cons hil, List.filter_cons, ← e, hb]
        simp only [Bool.not_false, if_true, List.append_assoc, List.singleton_append]

end Go.Proofs.Ytoiondajpccobaa.M
