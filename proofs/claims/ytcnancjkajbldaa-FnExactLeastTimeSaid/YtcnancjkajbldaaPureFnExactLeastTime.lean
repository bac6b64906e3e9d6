/- For all arguments LeastTime gives the reference's answer: the plain part. -/
import Derived.Test.YtcnancjkajbldaaPx4
import Derived.Test.YtcnancjkajbldaaPx8
import Derived.Test.YtcnancjkajbldaaPx9
import Derived.Test.YtcnancjkajbldaaMBase
import Derived.Test.YtcnancjkajbldaaMInts
import Derived.Test.YtcnancjkajbldaaMAll
import Derived.Test.YtcnancjkajbldaaMShare
import Derived.Test.YtcnancjkajbldaaMShares
import Derived.Test.YtcnancjkajbldaaMLeast
namespace Go.Proofs.Ytcnancjkajbldaa.Pure
open Go.RowKit Go.Proofs.Ytcnancjkajbldaa.P Go.Proofs.YtcnancjkajbldaaW.PrintWords Go.Proofs.Ytcnancjkajbldaa.M
set_option linter.unusedVariables false
set_option linter.unusedSimpArgs false

theorem law_of (w : List Int) (r : List Int) (r0 : Int) (r1 : Bool) (hb_w : ¬ ((w.length : Int) > 1048576)) (hb_r : ¬ ((r.length : Int) > 1048576)) (hs : Ev (fun k => spec_LeastTime.f k w r) (r0, r1)) (hi : Ev (fun k => impl_LeastTime.f k w r) (r0, r1)) : Ev (fun k => laws_FnExactLeastTime.f k w r) true := by
  have ht_w := toIntS_ev w (by omega)
  have he_w := eqIntS_same w (by omega)
  have ht_r := toIntS_ev r (by omega)
  have he_r := eqIntS_same r (by omega)
  unfold laws_FnExactLeastTime.f
  repeat (first
    | exact Ev.now _
    | (with_reducible refine Ev.bind hs ?_)
    | (with_reducible refine Ev.bind hi ?_)
    | (with_reducible refine Ev.bind ht_w ?_)
    | (with_reducible refine Ev.bind he_w ?_)
    | (with_reducible refine Ev.bind ht_r ?_)
    | (with_reducible refine Ev.bind he_r ?_)
    | simp only [if_true, if_false, bne_self_eq_false, Bool.false_eq_true, Option.bind_some, hb_w, hb_r]
    | (refine Ev.step (fun k => rfl) ?_; simp only [laws_FnExactLeastTime.j0, if_true, if_false, bne_self_eq_false, Bool.false_eq_true, Option.bind_some, hb_w, hb_r])
    )

theorem FnExactLeastTime : laws_FnExactLeastTime.Pure := by
  intro w r _ _ _ _ _ _
  refine Ev.rounds ?_
  by_cases hw : (w.length : Int) > 1048576
  · unfold laws_FnExactLeastTime.f
    simp only [hw, if_true]; exact Ev.now _
  by_cases hr : (r.length : Int) > 1048576
  · unfold laws_FnExactLeastTime.f
    simp only [hw, hr, if_true, if_false]; exact Ev.now _
  have h1 := shRated_ev w r (by omega) (by omega)
  have h2 := areRated_f w r
  cases hb : widthsB w && ratesB r
  · rw [hb] at h1 h2
    refine law_of w r 0 false hw hr ?_ ?_
    · unfold spec_LeastTime.f
      exact Ev.bind h1 (Ev.now _)
    · unfold impl_LeastTime.f
      rw [h2]; exact Ev.now _
  · have h3 := hb
    rw [Bool.and_eq_true] at h3
    have h4 := widths_bounds h3.1
    have h5 := rates_bounds h3.2
    have hg : ShGood w r := ⟨h4.2.2, by omega, h5.2.2, by omega, by omega⟩
    obtain ⟨f, _, _, hf⟩ := leastTime_ev hg
    rw [hb] at h1 h2
    refine law_of w r (Lf r w) true hw hr ?_ ?_
    · unfold spec_LeastTime.f
      refine Ev.bind h1 ?_
      simp only [if_true]
      exact Ev.bind (shLeast_all hg) (Ev.now _)
    · unfold impl_LeastTime.f
      rw [h2]
      simp only [Option.bind_some, if_true]
      exact Ev.bind hf (Ev.now _)

end Go.Proofs.Ytcnancjkajbldaa.Pure
