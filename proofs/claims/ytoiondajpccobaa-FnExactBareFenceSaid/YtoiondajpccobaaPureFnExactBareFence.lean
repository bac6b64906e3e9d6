/- For all numbers BareFence gives the reference's answer: the plain part. -/
import Derived.Test.YtoiondajpccobaaPx10
import Derived.Test.YtoiondajpccobaaPx9
import Derived.Test.YtoiondajpccobaaMBase
import Derived.Test.YtoiondajpccobaaMFence
namespace Go.Proofs.Ytoiondajpccobaa.Pure
open Go.RowKit Go.Proofs.Ytoiondajpccobaa.P Go.Proofs.YtoiondajpccobaaW.PrintWords Go.Proofs.Ytoiondajpccobaa.M
set_option linter.unusedVariables false
set_option linter.unusedSimpArgs false

theorem law_of (n : Int) (r0 : ByteArray) (r1 : Bool) (hs : Ev (fun k => spec_BareFence.f k n) (r0, r1)) (hi : impl_BareFence.f n = some (r0, r1)) : Ev (fun k => laws_FnExactBareFence.f k n) true := by
  unfold laws_FnExactBareFence.f
  repeat (first
    | exact Ev.now _
    | (with_reducible refine Ev.bind hs ?_)
    | simp only [if_true, if_false, bne_self_eq_false, Bool.false_eq_true, Option.bind_some, hi]
    )

theorem bare_told : ∀ n : Fin 21, spec_stBare.f 25 ((n.val : Nat) : Int) = some ⟨(Lib.repeatL [46] n.val).toArray⟩ := by decide +kernel
theorem FnExactBareFence : laws_FnExactBareFence.Pure := by
  intro n _
  refine Ev.rounds ?_
  cases hn : inn 1 20 n
  · refine law_of n ⟨#[]⟩ false ?_ ?_
    · unfold spec_BareFence.f
      rw [l1In_inn, hn]
      exact Ev.now _
    · unfold impl_BareFence.f
      rw [within_f, hn]
      rfl
  · have hb := (inn_iff 1 20 n).1 hn
    obtain ⟨m, rfl⟩ := Int.eq_ofNat_of_zero_le (show 0 ≤ n by omega)
    have ht := bare_told ⟨m, by omega⟩
    have e : Ev (fun k => spec_stBare.f k (m : Int)) ⟨(Lib.repeatL [46] m).toArray⟩ := Ev.of (fun k => spec_stBare.mono _ k) ht
    refine law_of (m : Int) ⟨(Lib.repeatL [46] m).toArray⟩ true ?_ ?_
    · unfold spec_BareFence.f
      rw [l1In_inn, hn]
      simp only [Option.bind_some, if_true]
      exact Ev.bind e (Ev.now _)
    · unfold impl_BareFence.f
      rw [within_f, hn]
      simp only [Option.bind_some, if_true]
      unfold strings_Repeat.f
      rw [if_pos ⟨by omega, by omega, by decide⟩]
      rfl

end Go.Proofs.Ytoiondajpccobaa.Pure
