/- For all numbers PlacesOfPosts gives the reference's answer: the plain part. -/
import Derived.Test.YtdolabkagkdfaaaPx5
import Derived.Test.YtdolabkagkdfaaaPx6
import Derived.Test.YtdolabkagkdfaaaPx7
import Derived.Test.YtdolabkagkdfaaaPx8
import Derived.Test.YtdolabkagkdfaaaMPosts
import Derived.Test.YtdolabkagkdfaaaMBase
import Derived.Test.YtdolabkagkdfaaaMInts
import Derived.Test.YtdolabkagkdfaaaMLists
namespace Go.Proofs.Ytdolabkagkdfaaa.Pure
open Go.RowKit Go.Proofs.Ytdolabkagkdfaaa.P Go.Proofs.YtdolabkagkdfaaaW.PrintWords Go.Proofs.Ytdolabkagkdfaaa.M
set_option linter.unusedVariables false
set_option linter.unusedSimpArgs false

theorem law_of (a : Int) (b : Int) (out : List Int) (ok : Bool) (ho : out.length ≤ 1000000) (hs : Ev (fun k => spec_PlacesOfPosts.f k a b) (out, ok)) (hi : Ev (fun k => impl_PlacesOfPosts.f k a b) (out, ok)) : Ev (fun k => laws_FnExactPlacesOfPosts.f k a b) true := by
  have he := eqIntS_same out (by omega)
  have hm := markIntS_ev out (by omega)
  have hh := heldIntS_ev out.length (by omega)
  have hneg : ¬ ((out.length : Int) + 1 < 0) := by omega
  unfold laws_FnExactPlacesOfPosts.f
  refine Ev.bind hs (Ev.bind hi (Ev.bind he ?_))
  simp only [if_true, bne_self_eq_false]
  refine Ev.step (f := fun k => (laws_markIntS.f k out 1).bind fun bt196 => ((laws_heldIntS.f k bt196.2 1).bind fun t198 => (if t198 < 0 then (some false) else (if t198 = bt196.1 then ((impl_PlacesOfPosts.f k a b).bind fun bt199 => ((laws_eqIntS.f k bt199.1 out).bind fun t203 => (if t203 = true then (laws_FnExactPlacesOfPosts.j1 k bt196.2 bt196.1 (bt199.2 != ok)) else (laws_FnExactPlacesOfPosts.j1 k bt196.2 bt196.1 true)))) else (some false))))) (fun k => ?_) ?_
  · simp only [laws_FnExactPlacesOfPosts.j0, Bool.false_eq_true, if_false]
  refine Ev.bind hm (Ev.bind hh ?_)
  simp only [hneg, if_false, if_true]
  refine Ev.bind hi (Ev.bind he ?_)
  simp only [if_true, bne_self_eq_false]
  refine Ev.step (f := fun k => (laws_heldIntS.f k (marked out.length) 1).bind fun t204 => (if t204 < 0 then (some false) else (if t204 = ((out.length : Int) + 1) then (some true) else (some false)))) (fun k => ?_) ?_
  · simp only [laws_FnExactPlacesOfPosts.j1, Bool.false_eq_true, if_false]
  refine Ev.bind hh (Ev.const ?_)
  rw [if_neg hneg, if_pos rfl]

theorem FnExactPlacesOfPosts : laws_FnExactPlacesOfPosts.Pure := by
  intro a b ha hb
  refine Ev.rounds ?_
  cases h1 : long a <;> cases h2 : long b
  case true.true =>
    have h3 := h1
    have h4 := h2
    rw [long_iff] at h3 h4
    obtain ⟨out, ho, e1, e2⟩ := placesOfPosts_l0 a b h3 h4 1000 [] 0 (by omega) (by simp) (by omega) (by omega)
    refine law_of a b out true (by omega) ?_ ?_
    · unfold spec_PlacesOfPosts.f
      simp only [poLong_f, h1, h2, Option.bind_some, if_true, Bool.not_true]
      refine Ev.step (fun k => ?_) e1
      simp only [spec_PlacesOfPosts.j0, Bool.false_eq_true, if_false]
    · unfold impl_PlacesOfPosts.f
      simp only [areLong_f, List.all_cons, List.all_nil, Bool.and_true, h1, h2, Option.bind_some, if_true]
      exact e2
  all_goals
    refine law_of a b [] false (by simp) ?_ ?_
    · unfold spec_PlacesOfPosts.f
      simp only [poLong_f, h1, h2, Option.bind_some, if_true, Bool.not_false, Bool.false_eq_true, if_false]
      refine Ev.step (f := fun _ => some _) (fun k => ?_) (Ev.now _)
      simp only [spec_PlacesOfPosts.j0, if_true]
    · unfold impl_PlacesOfPosts.f
      simp only [areLong_f, List.all_cons, List.all_nil, h1, h2, Option.bind_some]
      exact Ev.now _

end Go.Proofs.Ytdolabkagkdfaaa.Pure
