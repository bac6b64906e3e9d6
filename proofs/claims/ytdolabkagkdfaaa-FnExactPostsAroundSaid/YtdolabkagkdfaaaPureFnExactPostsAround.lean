/- For all numbers PostsAround gives the reference's answer: the plain part. -/
import Derived.Test.YtdolabkagkdfaaaPx1
import Derived.Test.YtdolabkagkdfaaaPx2
import Derived.Test.YtdolabkagkdfaaaMPosts
import Derived.Test.YtdolabkagkdfaaaMBase
namespace Go.Proofs.Ytdolabkagkdfaaa.Pure
open Go.RowKit Go.Proofs.Ytdolabkagkdfaaa.P Go.Proofs.YtdolabkagkdfaaaW.PrintWords Go.Proofs.Ytdolabkagkdfaaa.M
set_option linter.unusedVariables false
set_option linter.unusedSimpArgs false

theorem FnExactPostsAround : laws_FnExactPostsAround.Pure := by
  intro a b c ha hb hc
  refine Ev.rounds ?_
  unfold laws_FnExactPostsAround.f spec_PostsAround.f impl_PostsAround.f
  simp only [poLong_f, areLong_f, List.all_cons, List.all_nil, Option.bind_some, Bool.and_true]
  have no : ∀ (x : Bool), x = false → Ev (fun k => (spec_PostsAround.j0 k a b c true).bind fun bt126 => (if x = true then ((impl_up.f a c).bind fun t124 => ((impl_up.f b c).bind fun t125 => (some (wrap64 (2 * (wrap64 (t124 + t125))), true)))) else (some (0, false))).bind fun bt128 => (if bt128.1 = bt126.1 then (if (bt128.2 != bt126.2) = true then (some false) else (some true)) else (some false))) true := by
    intro x hx
    refine Ev.bind (a := (0, false)) (Ev.step (f := fun _ => some _) (fun k => ?_) (Ev.now _)) (Ev.const ?_)
    · simp only [spec_PostsAround.j0]; simp
    · rw [hx]; simp
  cases h1 : long a <;> cases h2 : long b <;> cases h3 : long c
  case true.true.true =>
    simp only [if_true]
    have r1 := parts_range a c h1 h3
    have r2 := parts_range b c h2 h3
    refine Ev.bind (a := (2 * parts a c + 2 * parts b c, true)) (Ev.step (f := fun _ => some _) (fun k => ?_) (Ev.now _)) (Ev.const ?_)
    · simp only [spec_PostsAround.j0]
      simp only [Bool.not_true, Bool.false_eq_true, if_false, poParts_f a c h1 h3, poParts_f b c h2 h3, Option.bind_some]
      rw [wrap_id (a := 2 * parts a c) (by omega) (by omega), wrap_id (a := 2 * parts b c) (by omega) (by omega), wrap_id (by omega) (by omega)]
    · simp only [Bool.and_self, if_true, up_f a c h1 h3, up_f b c h2 h3, Option.bind_some]
      rw [wrap_id (a := parts a c + parts b c) (by omega) (by omega), wrap_id (by omega) (by omega), if_pos (by omega)]
      simp
  all_goals (simp only [Bool.false_eq_true, if_false, if_true, Bool.not_false]; exact no _ rfl)

end Go.Proofs.Ytdolabkagkdfaaa.Pure
