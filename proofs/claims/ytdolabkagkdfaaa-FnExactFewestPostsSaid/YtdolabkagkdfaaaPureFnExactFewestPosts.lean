/- For every pair of numbers FewestPosts gives the reference's answer: the plain part. -/
import Derived.Test.YtdolabkagkdfaaaPx1
import Derived.Test.YtdolabkagkdfaaaPx2
import Derived.Test.YtdolabkagkdfaaaMPosts
import Derived.Test.YtdolabkagkdfaaaMBase
namespace Go.Proofs.Ytdolabkagkdfaaa.Pure
open Go.RowKit Go.Proofs.Ytdolabkagkdfaaa.P Go.Proofs.YtdolabkagkdfaaaW.PrintWords Go.Proofs.Ytdolabkagkdfaaa.M
set_option linter.unusedVariables false
set_option linter.unusedSimpArgs false

theorem FnExactFewestPosts : laws_FnExactFewestPosts.Pure := by
  intro a b ha hb
  unfold laws_FnExactFewestPosts.f spec_FewestPosts.f impl_FewestPosts.f
  simp only [poLong_f, areLong_f, List.all_cons, List.all_nil, Option.bind_some, Bool.and_true]
  cases h1 : long a <;> cases h2 : long b <;> simp
  rw [poParts_f a b h1 h2, up_f a b h1 h2]
  simp

end Go.Proofs.Ytdolabkagkdfaaa.Pure
