/- For every list AreRails gives the reference's answer, and leaves the list alone: the plain part. -/
import Derived.Test.YtdolabkagkdfaaaPx1
import Derived.Test.YtdolabkagkdfaaaPx15
import Derived.Test.YtdolabkagkdfaaaMPosts
import Derived.Test.YtdolabkagkdfaaaMBase
import Derived.Test.YtdolabkagkdfaaaMInts
import Derived.Test.YtdolabkagkdfaaaMAll
namespace Go.Proofs.Ytdolabkagkdfaaa.Pure
open Go.RowKit Go.Proofs.Ytdolabkagkdfaaa.P Go.Proofs.YtdolabkagkdfaaaW.PrintWords Go.Proofs.Ytdolabkagkdfaaa.M
set_option linter.unusedVariables false
set_option linter.unusedSimpArgs false

theorem FnExactAreRails : laws_FnExactAreRails.Pure := by
  intro l _ hl _
  refine Ev.rounds ?_
  unfold laws_FnExactAreRails.f
  by_cases hb : (l.length : Int) > 1048576
  · simp only [hb, if_true]; exact Ev.now _
  · simp only [hb, if_false]
    have ht := toIntS_ev l (by omega)
    have hs : Ev (fun k => spec_AreRails.f k l) ((decide (1 ≤ (l.length : Int)) && decide ((l.length : Int) ≤ 8)) && l.all long) := by
      unfold spec_AreRails.f spec_poGood.f
      rw [l1In_f]
      cases hx : (decide (1 ≤ (l.length : Int)) && decide ((l.length : Int) ≤ 8))
      · exact Ev.const rfl
      · simp only [Option.bind_some, if_true, Bool.true_and]
        exact Ev.bind (Ev.bind (l1All_ev l 1 500 (by omega)) (Ev.now _)) (Ev.now _)
    have hi : impl_AreRails.f l = some ((decide (1 ≤ (l.length : Int)) && decide ((l.length : Int) ≤ 8)) && l.all long) := by
      unfold impl_AreRails.f impl_within.f
      by_cases h : (l.length : Int) ≥ 1
      · rw [if_pos h, areLong_f]
        by_cases h2 : (l.length : Int) ≤ 8
        · simp [h2]; omega
        · simp [h2]
      · rw [if_neg h]; simp [show ¬ 1 ≤ (l.length : Int) from h]
    refine Ev.bind ht (Ev.bind hs (Ev.bind ht ?_))
    rw [hi]
    simp only [Option.bind_some, bne_self_eq_false, Bool.false_eq_true, if_false]
    refine Ev.bind ht (Ev.bind (eqIntS_same l (by omega)) (Ev.const ?_))
    rfl

end Go.Proofs.Ytdolabkagkdfaaa.Pure
