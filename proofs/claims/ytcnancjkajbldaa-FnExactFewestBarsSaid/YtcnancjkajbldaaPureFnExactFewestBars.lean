/- For all arguments FewestBars gives the reference's answer: the plain part. -/
import Derived.Test.YtcnancjkajbldaaPx22
import Derived.Test.YtcnancjkajbldaaPx27
import Derived.Test.YtcnancjkajbldaaPx28
import Derived.Test.YtcnancjkajbldaaPx29
import Derived.Test.YtcnancjkajbldaaMBase
import Derived.Test.YtcnancjkajbldaaMInts
import Derived.Test.YtcnancjkajbldaaMAll
import Derived.Test.YtcnancjkajbldaaMMax
import Derived.Test.YtcnancjkajbldaaMFit
import Derived.Test.YtcnancjkajbldaaMBars
namespace Go.Proofs.Ytcnancjkajbldaa.Pure
open Go.RowKit Go.Proofs.Ytcnancjkajbldaa.P Go.Proofs.YtcnancjkajbldaaW.PrintWords Go.Proofs.Ytcnancjkajbldaa.M
set_option linter.unusedVariables false
set_option linter.unusedSimpArgs false

theorem law_of (r : List Int) (b : Int) (r0 : Int) (r1 : Bool) (hb_r : ¬ ((r.length : Int) > 1048576)) (hs : Ev (fun k => spec_FewestBars.f k r b) (r0, r1)) (hi : Ev (fun k => impl_FewestBars.f k r b) (r0, r1)) : Ev (fun k => laws_FnExactFewestBars.f k r b) true := by
  have ht_r := toIntS_ev r (by omega)
  have he_r := eqIntS_same r (by omega)
  unfold laws_FnExactFewestBars.f
  repeat (first
    | exact Ev.now _
    | (with_reducible refine Ev.bind hs ?_)
    | (with_reducible refine Ev.bind hi ?_)
    | (with_reducible refine Ev.bind ht_r ?_)
    | (with_reducible refine Ev.bind he_r ?_)
    | simp only [if_true, if_false, bne_self_eq_false, Bool.false_eq_true, Option.bind_some, hb_r]
    | (refine Ev.step (fun k => rfl) ?_; simp only [laws_FnExactFewestBars.j0, if_true, if_false, bne_self_eq_false, Bool.false_eq_true, Option.bind_some, hb_r])
    )

theorem FnExactFewestBars : laws_FnExactFewestBars.Pure := by
  intro r b _ _ _ _
  refine Ev.rounds ?_
  by_cases hw : (r.length : Int) > 1048576
  · unfold laws_FnExactFewestBars.f
    simp only [hw, if_true]; exact Ev.now _
  have h1 := poGood_ev r (by omega)
  have h2 := areBarred_f r b
  have h3 := poLong_f b
  cases hb : railsB r
  · rw [hb] at h1 h2
    refine law_of r b 0 false hw ?_ ?_
    · unfold spec_FewestBars.f
      refine Ev.bind (show Ev (fun k => spec_poFits.f k r b) false from ?_) (Ev.now _)
      unfold spec_poFits.f
      exact Ev.bind h1 (Ev.now _)
    · unfold impl_FewestBars.f
      rw [h2]; exact Ev.now _
  · rw [hb] at h1 h2
    have h4 := rails_bounds hb
    cases hl : long b
    · rw [hl] at h2 h3
      refine law_of r b 0 false hw ?_ ?_
      · unfold spec_FewestBars.f
        refine Ev.bind (show Ev (fun k => spec_poFits.f k r b) false from ?_) (Ev.now _)
        unfold spec_poFits.f
        refine Ev.bind h1 ?_
        simp only [if_true]
        rw [h3]
        exact Ev.now _
      · unfold impl_FewestBars.f
        rw [h2]; exact Ev.now _
    · have hbar := (long_iff b).1 hl
      rw [hl] at h2 h3
      have hall := l1All_ev r 1 b (by omega)
      obtain ⟨st, e1, hy, hn⟩ := bars_both r b h4.2.2 (by omega) (by omega) hbar
      have himp : ∀ q : Bool, decide (st.2 > 0) = q → Ev (fun k => impl_FewestBars.f k r b) (st.2, q) := fun q hq => by
        unfold impl_FewestBars.f
        rw [h2]
        simp only [Option.bind_some, Bool.and_self, if_true]
        refine Ev.bind e1 ?_
        rw [hq]
        exact Ev.now _
      by_cases hfit : ∀ x ∈ r, x ≤ b
      · have ht : (r.all fun n => decide (1 ≤ n) && decide (n ≤ b)) = true := by
          rw [List.all_eq_true]
          intro x hx
          have h5 := (h4.2.2 x hx).1
          have h6 := hfit x hx
          simp; omega
        rw [ht] at hall
        obtain ⟨hpos, cut, e2⟩ := hy hfit
        refine law_of r b st.2 true hw ?_ (himp true (decide_eq_true hpos))
        unfold spec_FewestBars.f
        refine Ev.bind (show Ev (fun k => spec_poFits.f k r b) true from ?_) ?_
        · unfold spec_poFits.f
          refine Ev.bind h1 ?_
          simp only [if_true]
          rw [h3]
          simp only [Option.bind_some, if_true]
          exact Ev.bind hall (Ev.now _)
        · simp only [if_true]
          exact Ev.bind e2 (Ev.now _)
      · have ht : (r.all fun n => decide (1 ≤ n) && decide (n ≤ b)) = false := by
          rw [Bool.eq_false_iff]
          intro h
          rw [List.all_eq_true] at h
          exact hfit (fun x hx => by have := h x hx; simp at this; omega)
        rw [ht] at hall
        have h0 := hn hfit
        have hi := himp false (by rw [h0]; rfl)
        rw [h0] at hi
        refine law_of r b 0 false hw ?_ hi
        unfold spec_FewestBars.f
        refine Ev.bind (show Ev (fun k => spec_poFits.f k r b) false from ?_) (Ev.now _)
        unfold spec_poFits.f
        refine Ev.bind h1 ?_
        simp only [if_true]
        rw [h3]
        simp only [Option.bind_some, if_true]
        exact Ev.bind hall (Ev.now _)

end Go.Proofs.Ytcnancjkajbldaa.Pure
