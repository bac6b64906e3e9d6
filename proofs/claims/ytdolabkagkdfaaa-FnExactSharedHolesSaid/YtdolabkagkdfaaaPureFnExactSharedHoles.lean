/- For all numbers SharedHoles gives the reference's answer: the plain part. -/
import Derived.Test.YtdolabkagkdfaaaPx11
import Derived.Test.YtdolabkagkdfaaaPx12
import Derived.Test.YtdolabkagkdfaaaPx13
import Derived.Test.YtdolabkagkdfaaaPx6
import Derived.Test.YtdolabkagkdfaaaPx7
import Derived.Test.YtdolabkagkdfaaaMPosts
import Derived.Test.YtdolabkagkdfaaaMBase
import Derived.Test.YtdolabkagkdfaaaMInts
import Derived.Test.YtdolabkagkdfaaaMGcd
import Derived.Test.YtdolabkagkdfaaaMHoles
namespace Go.Proofs.Ytdolabkagkdfaaa.Pure
open Go.RowKit Go.Proofs.Ytdolabkagkdfaaa.P Go.Proofs.YtdolabkagkdfaaaW.PrintWords Go.Proofs.Ytdolabkagkdfaaa.M
set_option linter.unusedVariables false
set_option linter.unusedSimpArgs false

theorem law_of (a : Int) (b : Int) (c : Int) (out : List Int) (ok : Bool) (ho : out.length ≤ 1000000) (hs : Ev (fun k => spec_SharedHoles.f k a b c) (out, ok)) (hi : Ev (fun k => impl_SharedHoles.f k a b c) (out, ok)) : Ev (fun k => laws_FnExactSharedHoles.f k a b c) true := by
  have he := eqIntS_same out (by omega)
  have hm := markIntS_ev out (by omega)
  have hh := heldIntS_ev out.length (by omega)
  have hneg : ¬ ((out.length : Int) + 1 < 0) := by omega
  unfold laws_FnExactSharedHoles.f
  refine Ev.bind hs (Ev.bind hi (Ev.bind he ?_))
  simp only [if_true, bne_self_eq_false]
  refine Ev.step (f := fun k => (laws_markIntS.f k out 1).bind fun bt196 => ((laws_heldIntS.f k bt196.2 1).bind fun t198 => (if t198 < 0 then (some false) else (if t198 = bt196.1 then ((impl_SharedHoles.f k a b c).bind fun bt199 => ((laws_eqIntS.f k bt199.1 out).bind fun t203 => (if t203 = true then (laws_FnExactSharedHoles.j1 k bt196.2 bt196.1 (bt199.2 != ok)) else (laws_FnExactSharedHoles.j1 k bt196.2 bt196.1 true)))) else (some false))))) (fun k => ?_) ?_
  · simp only [laws_FnExactSharedHoles.j0, Bool.false_eq_true, if_false]
  refine Ev.bind hm (Ev.bind hh ?_)
  simp only [hneg, if_false, if_true]
  refine Ev.bind hi (Ev.bind he ?_)
  simp only [if_true, bne_self_eq_false]
  refine Ev.step (f := fun k => (laws_heldIntS.f k (marked out.length) 1).bind fun t204 => (if t204 < 0 then (some false) else (if t204 = ((out.length : Int) + 1) then (some true) else (some false)))) (fun k => ?_) ?_
  · simp only [laws_FnExactSharedHoles.j1, Bool.false_eq_true, if_false]
  refine Ev.bind hh (Ev.const ?_)
  rw [if_neg hneg, if_pos rfl]

theorem FnExactSharedHoles : laws_FnExactSharedHoles.Pure := by
  intro a b c ha hb hc
  refine Ev.rounds ?_
  cases h1 : long a <;> cases h2 : long b <;> cases h3 : long c
  case true.true.true =>
    have h4 := h1
    have h5 := h2
    have h6 := h3
    rw [long_iff] at h4 h5 h6
    obtain ⟨a, rfl⟩ := Int.eq_ofNat_of_zero_le (show 0 ≤ a by omega)
    obtain ⟨b, rfl⟩ := Int.eq_ofNat_of_zero_le (show 0 ≤ b by omega)
    obtain ⟨c, rfl⟩ := Int.eq_ofNat_of_zero_le (show 0 ≤ c by omega)
    have hlen := holes_length (Nat.lcm b c) (a + 1)
    refine law_of _ _ _ (holes (Nat.lcm b c) (a + 1)) true (by omega) ?_ (shared_yes a b c (by omega) (by omega) (by omega))
    unfold spec_SharedHoles.f
    simp only [poLong_f, h1, h2, h3, Option.bind_some, if_true]
    refine Ev.bind (a := holes (Nat.lcm b c) (a + 1)) ?_ (Ev.const rfl)
    have e := spec_both a b c (by omega) (by omega) (by omega) _ 0 (by omega) rfl
    simpa [holes, spec_poHoles.f] using e
  all_goals
    refine law_of a b c [] false (by simp) ?_ ?_
    · unfold spec_SharedHoles.f
      simp only [poLong_f, h1, h2, h3, Option.bind_some, if_true, Bool.false_eq_true, if_false]
      exact Ev.now _
    · unfold impl_SharedHoles.f
      simp only [areLong_f, List.all_cons, List.all_nil, h1, h2, h3, Option.bind_some]
      exact Ev.now _

end Go.Proofs.Ytdolabkagkdfaaa.Pure
