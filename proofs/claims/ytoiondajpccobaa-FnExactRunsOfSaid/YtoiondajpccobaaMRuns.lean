/- The runs of a fence: the reference and the program build the same list. -/
import Derived.Test.YtoiondajpccobaaPx0
import Derived.Test.YtoiondajpccobaaPx5
import Derived.Test.YtoiondajpccobaaPx6
import Derived.Test.YtoiondajpccobaaMBase
namespace Go.Proofs.Ytoiondajpccobaa.M
open Go.RowKit Go.Proofs.Ytoiondajpccobaa.P Go.Proofs.YtoiondajpccobaaW.PrintWords Go.Proofs.Ytoiondajpccobaa.M
set_option linter.unusedVariables false
set_option linter.unusedSimpArgs false

theorem runs_both (s : ByteArray) (hs : s.size ≤ 20) (d : Nat) : ∀ (i : Nat) (out : List S52), i ≤ s.size → s.size - i = d → out.length ≤ i → (0 < i → 0 < out.length) →
    ∃ r : List S52, r.length ≤ s.size ∧ Ev (fun k => spec_stRuns.l0 k s out (i : Int)) r ∧ Ev (fun k => impl_runsOf.l0 k s out (s.size : Int) (i : Int)) r := by
  induction d with
  | zero =>
    intro i out hi hd ho h0
    refine ⟨out, by omega, Ev.step (f := fun _ => some _) (fun k => ?_) (Ev.now _), Ev.step (f := fun _ => some _) (fun k => ?_) (Ev.now _)⟩
    · simp only [spec_stRuns.l0]
      rw [if_neg (by omega)]
    · simp only [impl_runsOf.l0]
      rw [if_neg (by omega)]
  | succ d ih =>
    intro i out hi hd ho h0
    have c1 : (i : Int) < (s.size : Int) := by omega
    have c2 : 0 ≤ (i : Int) := by omega
    have w1 : wrap64 ((i : Int) + 1) = ((i + 1 : Nat) : Int) := by rw [wrap_id (by omega) (by omega)]; rfl
    have w2 : wrap64 ((out.length : Int) - 1) = (out.length : Int) - 1 := wrap_id (by omega) (by omega)
    have c3 : (i : Int) ≤ ((i + 1 : Nat) : Int) := by omega
    have c4 : ((i + 1 : Nat) : Int) ≤ (s.size : Int) := by omega
    have c5 : out.length < 4398046511104 := by omega
    by_cases hz : i = 0
    · subst hz
      have e0 : out.length = 0 := by omega
      have g1 : ¬ ((out.length : Int) - 1 ≥ 0) := by omega
      obtain ⟨r, hr, e1, e2⟩ := ih 1 (out ++ [(⟨((0 : Nat) : Int), ((0 : Nat) : Int), s.extract (((0 : Nat) : Int)).toNat (((0 + 1 : Nat) : Int)).toNat⟩ : S52)]) (by omega) (by omega) (by rw [List.length_append]; simp only [List.length_cons, List.length_nil]; omega) (fun _ => by rw [List.length_append]; simp only [List.length_cons, List.length_nil]; omega)
      refine ⟨r, hr, Ev.step (fun k => ?_) e1, Ev.step (fun k => ?_) e2⟩
      · simp only [spec_stRuns.l0]
        rw [w1, w2, if_pos c1, if_neg g1, if_pos c2, if_pos c3, if_pos c4, if_pos c5]
      · simp only [impl_runsOf.l0]
        rw [w1, if_pos c1, if_neg (by omega), if_pos c2, if_pos c3, if_pos c4, if_pos c5]
    · have hl := h0 (by omega)
      have w3 : wrap64 ((i : Int) - 1) = (i : Int) - 1 := wrap_id (by omega) (by omega)
      have g1 : (out.length : Int) - 1 ≥ 0 := by omega
      have g2 : 0 ≤ (i : Int) - 1 := by omega
      have g3 : (i : Int) - 1 < (s.size : Int) := by omega
      have g4 : (out.length : Int) - 1 < (out.length : Int) := by omega
      by_cases he : bt s (i : Int) = bt s ((i : Int) - 1)
      · obtain ⟨r, hr, e1, e2⟩ := ih (i + 1) (out.set (((out.length : Int) - 1) : Int).toNat (⟨(rd_T52 out ((out.length : Int) - 1)).f0, (i : Int), (rd_T52 out ((out.length : Int) - 1)).f2⟩ : S52)) (by omega) (by omega) (by simp; omega) (by simp; omega)
        refine ⟨r, hr, Ev.step (fun k => ?_) e1, Ev.step (fun k => ?_) e2⟩
        · simp only [spec_stRuns.l0]
          rw [w1, w2, w3, if_pos c1, if_pos g1, if_pos c2, if_pos g2, if_pos g3, if_pos he, if_pos (by omega), if_pos g4]
        · simp only [impl_runsOf.l0]
          rw [w1, w2, w3, if_pos c1, if_pos (by omega), if_pos c2, if_pos c1, if_pos g2, if_pos g3, if_pos he, if_pos (by omega), if_pos g4]
      · obtain ⟨r, hr, e1, e2⟩ := ih (i + 1) (out ++ [(⟨(i : Int), (i : Int), s.extract ((i : Int)).toNat (((i + 1 : Nat) : Int)).toNat⟩ : S52)]) (by omega) (by omega) (by rw [List.length_append]; simp only [List.length_cons, List.length_nil]; omega) (fun _ => by rw [List.length_append]; simp only [List.length_cons, List.length_nil]; omega)
        refine ⟨r, hr, Ev.step (fun k => ?_) e1, Ev.step (fun k => ?_) e2⟩
        · simp only [spec_stRuns.l0]
          rw [w1, w2, w3, if_pos c1, if_pos g1, if_pos c2, if_pos g2, if_pos g3, if_neg he, if_pos c3, if_pos c4, if_pos c5]
        · simp only [impl_runsOf.l0]
          rw [w1, w2, w3, if_pos c1, if_pos (by omega), if_pos c2, if_pos c1, if_pos g2, if_pos g3, if_neg he, if_pos c3, if_pos c4, if_pos c5]
theorem runs_ev (s : ByteArray) (hs : s.size ≤ 20) : ∃ r : List S52, r.length ≤ s.size ∧ Ev (fun k => spec_stRuns.f k s) r ∧ Ev (fun k => impl_runsOf.f k s) r :=
  runs_both s hs _ 0 [] (Nat.zero_le _) rfl (by simp) (fun h => by omega)

end Go.Proofs.Ytoiondajpccobaa.M
