/- For all arguments SquaresOfRails gives the reference's answer, in memory of its own, and leaves the list alone: the plain part. -/
import Derived.Test.YtdolabkagkdfaaaPx16
import Derived.Test.YtdolabkagkdfaaaPx17
import Derived.Test.YtdolabkagkdfaaaPx18
import Derived.Test.YtdolabkagkdfaaaMBase
import Derived.Test.YtdolabkagkdfaaaMInts
import Derived.Test.YtdolabkagkdfaaaMAll
import Derived.Test.YtdolabkagkdfaaaMPosts
import Derived.Test.YtdolabkagkdfaaaMGround
namespace Go.Proofs.Ytdolabkagkdfaaa.Pure
open Go.RowKit Go.Proofs.Ytdolabkagkdfaaa.P Go.Proofs.YtdolabkagkdfaaaW.PrintWords Go.Proofs.Ytdolabkagkdfaaa.M
set_option linter.unusedVariables false
set_option linter.unusedSimpArgs false

theorem law_of (w : List Int) (g : Int) (r0 : List Int) (r1 : Bool) (hb_w : ¬ ((w.length : Int) > 1048576)) (ho_r0 : r0.length ≤ 1000000) (hs : Ev (fun k => spec_SquaresOfRails.f k w g) (r0, r1)) (hi : Ev (fun k => impl_SquaresOfRails.f k w g) (r0, r1)) : Ev (fun k => laws_FnExactSquaresOfRails.f k w g) true := by
  have ht_w := toIntS_ev w (by omega)
  have he_w := eqIntS_same w (by omega)
  obtain ⟨z_w, hm_w⟩ := markIntS_any w (1) (by omega) (by omega) (by omega)
  have hn_ : ¬ (1 + (w.length : Int) < 0) := by omega
  have he_r0 := eqIntS_same r0 (by omega)
  have hm_r0 := markIntS_ev r0 (by omega)
  have hh_r0 := heldIntS_ev r0.length (by omega)
  have hn_r0 : ¬ ((r0.length : Int) + 1 < 0) := by omega
  unfold laws_FnExactSquaresOfRails.f
  repeat (first
    | exact Ev.now _
    | (with_reducible refine Ev.bind hs ?_)
    | (with_reducible refine Ev.bind hi ?_)
    | (with_reducible refine Ev.bind ht_w ?_)
    | (with_reducible refine Ev.bind he_w ?_)
    | (with_reducible refine Ev.bind hm_w ?_)
    | (with_reducible refine Ev.bind he_r0 ?_)
    | (with_reducible refine Ev.bind hm_r0 ?_)
    | (with_reducible refine Ev.bind hh_r0 ?_)
    | simp only [if_true, if_false, bne_self_eq_false, Bool.false_eq_true, Option.bind_some, hb_w, hn_, hn_r0]
    | (refine Ev.step (fun k => rfl) ?_; simp only [laws_FnExactSquaresOfRails.j0, if_true, if_false, bne_self_eq_false, Bool.false_eq_true, Option.bind_some, hb_w, hn_, hn_r0])
    | (refine Ev.step (fun k => rfl) ?_; simp only [laws_FnExactSquaresOfRails.j1, if_true, if_false, bne_self_eq_false, Bool.false_eq_true, Option.bind_some, hb_w, hn_, hn_r0])
    | (refine Ev.step (fun k => rfl) ?_; simp only [laws_FnExactSquaresOfRails.j2, if_true, if_false, bne_self_eq_false, Bool.false_eq_true, Option.bind_some, hb_w, hn_, hn_r0])
    )

theorem FnExactSquaresOfRails : laws_FnExactSquaresOfRails.Pure := by
  intro w g _ _ _ _
  refine Ev.rounds ?_
  by_cases hw : (w.length : Int) > 1048576
  · unfold laws_FnExactSquaresOfRails.f
    simp only [hw, if_true]; exact Ev.now _
  obtain ⟨r, ok, hr, _, hi, hok, h0, hs⟩ := squares_ev w g (by omega)
  refine law_of w g r ok hw (by omega) ?_ hi
  unfold spec_SquaresOfRails.f
  refine Ev.bind (poGround_ev w (by omega)) ?_
  rw [poLong_f]
  cases hb : groundB w
  · rw [hb] at hok; simp at hok
    subst hok
    rw [h0 rfl]; exact Ev.now _
  · cases hg : long g
    · rw [hb, hg] at hok; simp at hok
      subst hok
      rw [h0 rfl]; exact Ev.now _
    · rw [hb, hg] at hok; simp at hok
      subst hok
      simp only [if_true, Option.bind_some]
      exact Ev.bind (hs rfl) (Ev.now _)

end Go.Proofs.Ytdolabkagkdfaaa.Pure
