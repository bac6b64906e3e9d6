/- For all numbers CountHoles gives the reference's answer: the plain part. -/
import Derived.Test.YtdolabkagkdfaaaPx11
import Derived.Test.YtdolabkagkdfaaaPx12
import Derived.Test.YtdolabkagkdfaaaPx14
import Derived.Test.YtdolabkagkdfaaaMPosts
import Derived.Test.YtdolabkagkdfaaaMBase
import Derived.Test.YtdolabkagkdfaaaMGcd
import Derived.Test.YtdolabkagkdfaaaMHoles
namespace Go.Proofs.Ytdolabkagkdfaaa.Pure
open Go.RowKit Go.Proofs.Ytdolabkagkdfaaa.P Go.Proofs.YtdolabkagkdfaaaW.PrintWords Go.Proofs.Ytdolabkagkdfaaa.M
set_option linter.unusedVariables false
set_option linter.unusedSimpArgs false

theorem law_of (a b c n : Int) (ok : Bool) (hs : Ev (fun k => spec_CountHoles.f k a b c) (n, ok)) (hi : Ev (fun k => impl_CountHoles.f k a b c) (n, ok)) : Ev (fun k => laws_FnExactCountHoles.f k a b c) true := by
  unfold laws_FnExactCountHoles.f
  exact Ev.bind hs (Ev.bind hi (Ev.const (by simp)))
theorem FnExactCountHoles : laws_FnExactCountHoles.Pure := by
  intro a b c ha hb hc
  refine Ev.rounds ?_
  cases h1 : long a <;> cases h2 : long b <;> cases h3 : long c
  case true.true.true =>
    have h4 := h1
    have h5 := h2
    have h6 := h3
    rw [long_iff] at h4 h5 h6
    obtain ⟨a, rfl⟩ := Int.eq_ofNat_of_zero_le (show 0 ≤ a by omega)
    obtain ⟨b, rfl⟩ := Int.eq_ofNat_of_zero_le (show 0 ≤ b by omega)
    obtain ⟨c, rfl⟩ := Int.eq_ofNat_of_zero_le (show 0 ≤ c by omega)
    have hlen := holes_length (Nat.lcm b c) (a + 1)
    have hlen2 := either_length b c (a + 1)
    have hcount := either_count b c (a + 1)
    rw [holes_count b a (by omega), holes_count c a (by omega)] at hcount
    refine law_of _ _ _ ((either b c (a + 1)).length : Int) true ?_ ?_
    · unfold spec_CountHoles.f
      simp only [poLong_f, h1, h2, h3, Option.bind_some, if_true]
      refine Ev.bind (a := either b c (a + 1)) ?_ (Ev.const rfl)
      have e := spec_either a b c (by omega) (by omega) (by omega) _ 0 (by omega) rfl
      simpa [either, spec_poHoles.f] using e
    · unfold impl_CountHoles.f
      refine Ev.bind (shared_yes a b c (by omega) (by omega) (by omega)) (Ev.const ?_)
      have d1 : Int.tdiv (a : Int) (b : Int) = ((a / b : Nat) : Int) := by rw [Int.tdiv_eq_ediv_of_nonneg (by omega)]; rfl
      have d2 : Int.tdiv (a : Int) (c : Int) = ((a / c : Nat) : Int) := by rw [Int.tdiv_eq_ediv_of_nonneg (by omega)]; rfl
      have l1 := Nat.div_le_self a b
      have l2 := Nat.div_le_self a c
      rw [if_pos rfl, if_neg (by omega), if_neg (by omega), d1, d2]
      generalize a / b = q1 at hcount l1 ⊢
      generalize a / c = q2 at hcount l2 ⊢
      dsimp only
      rw [wrap_id (a := (q1 : Int)) (by omega) (by omega), wrap_id (a := (q2 : Int)) (by omega) (by omega), wrap_id (a := (q1 : Int) + (q2 : Int)) (by omega) (by omega), wrap_id (a := (q1 : Int) + (q2 : Int) + 2) (by omega) (by omega), wrap_id (by omega) (by omega)]
      rw [show (q1 : Int) + (q2 : Int) + 2 - ((holes (Nat.lcm b c) (a + 1)).length : Int) = ((either b c (a + 1)).length : Int) from by omega]
  all_goals
    refine law_of a b c 0 false ?_ ?_
    · unfold spec_CountHoles.f
      simp only [poLong_f, h1, h2, h3, Option.bind_some, if_true, Bool.false_eq_true, if_false]
      exact Ev.now _
    · unfold impl_CountHoles.f impl_SharedHoles.f
      simp only [areLong_f, List.all_cons, List.all_nil, h1, h2, h3, Option.bind_some]
      exact Ev.now _

end Go.Proofs.Ytdolabkagkdfaaa.Pure
