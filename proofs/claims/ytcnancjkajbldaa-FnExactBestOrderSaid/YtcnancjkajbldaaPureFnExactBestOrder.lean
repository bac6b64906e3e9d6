/- For all arguments BestOrder gives the reference's answer, in memory of its own: the plain part. -/
import Derived.Test.YtcnancjkajbldaaPx17
import Derived.Test.YtcnancjkajbldaaPx18
import Derived.Test.YtcnancjkajbldaaPx19
import Derived.Test.YtcnancjkajbldaaMBase
import Derived.Test.YtcnancjkajbldaaMInts
import Derived.Test.YtcnancjkajbldaaMAll
import Derived.Test.YtcnancjkajbldaaMShare
import Derived.Test.YtcnancjkajbldaaMShares
import Derived.Test.YtcnancjkajbldaaMLeast
import Derived.Test.YtcnancjkajbldaaMOrder
namespace Go.Proofs.Ytcnancjkajbldaa.Pure
open Go.RowKit Go.Proofs.Ytcnancjkajbldaa.P Go.Proofs.YtcnancjkajbldaaW.PrintWords Go.Proofs.Ytcnancjkajbldaa.M
set_option linter.unusedVariables false
set_option linter.unusedSimpArgs false

theorem law_of (w : List Int) (r : List Int) (r0 : List Int) (r1 : Int) (r2 : Bool) (hb_w : ¬ ((w.length : Int) > 1048576)) (hb_r : ¬ ((r.length : Int) > 1048576)) (ho_r0 : r0.length ≤ 1000000) (hs : Ev (fun k => spec_BestOrder.f k w r) (r0, r1, r2)) (hi : Ev (fun k => impl_BestOrder.f k w r) (r0, r1, r2)) : Ev (fun k => laws_FnExactBestOrder.f k w r) true := by
  have ht_w := toIntS_ev w (by omega)
  have he_w := eqIntS_same w (by omega)
  have ht_r := toIntS_ev r (by omega)
  have he_r := eqIntS_same r (by omega)
  obtain ⟨z_w, hm_w⟩ := markIntS_any w (1) (by omega) (by omega) (by omega)
  obtain ⟨z_r, hm_r⟩ := markIntS_any r (1 + (w.length : Int)) (by omega) (by omega) (by omega)
  have hn_ : ¬ (1 + (w.length : Int) + (r.length : Int) < 0) := by omega
  have he_r0 := eqIntS_same r0 (by omega)
  have hm_r0 := markIntS_ev r0 (by omega)
  have hh_r0 := heldIntS_ev r0.length (by omega)
  have hn_r0 : ¬ ((r0.length : Int) + 1 < 0) := by omega
  unfold laws_FnExactBestOrder.f
  repeat (first
    | exact Ev.now _
    | (with_reducible refine Ev.bind hs ?_)
    | (with_reducible refine Ev.bind hi ?_)
    | (with_reducible refine Ev.bind ht_w ?_)
    | (with_reducible refine Ev.bind he_w ?_)
    | (with_reducible refine Ev.bind ht_r ?_)
    | (with_reducible refine Ev.bind he_r ?_)
    | (with_reducible refine Ev.bind hm_w ?_)
    | (with_reducible refine Ev.bind hm_r ?_)
    | (with_reducible refine Ev.bind he_r0 ?_)
    | (with_reducible refine Ev.bind hm_r0 ?_)
    | (with_reducible refine Ev.bind hh_r0 ?_)
    | simp only [if_true, if_false, bne_self_eq_false, Bool.false_eq_true, Option.bind_some, hb_w, hb_r, hn_, hn_r0]
    | (refine Ev.step (fun k => rfl) ?_; simp only [laws_FnExactBestOrder.j0, if_true, if_false, bne_self_eq_false, Bool.false_eq_true, Option.bind_some, hb_w, hb_r, hn_, hn_r0])
    | (refine Ev.step (fun k => rfl) ?_; simp only [laws_FnExactBestOrder.j1, if_true, if_false, bne_self_eq_false, Bool.false_eq_true, Option.bind_some, hb_w, hb_r, hn_, hn_r0])
    | (refine Ev.step (fun k => rfl) ?_; simp only [laws_FnExactBestOrder.j2, if_true, if_false, bne_self_eq_false, Bool.false_eq_true, Option.bind_some, hb_w, hb_r, hn_, hn_r0])
    )

theorem FnExactBestOrder : laws_FnExactBestOrder.Pure := by
  intro w r _ _ _ _ _ _
  refine Ev.rounds ?_
  by_cases hw : (w.length : Int) > 1048576
  · unfold laws_FnExactBestOrder.f
    simp only [hw, if_true]; exact Ev.now _
  by_cases hr : (r.length : Int) > 1048576
  · unfold laws_FnExactBestOrder.f
    simp only [hw, hr, if_true, if_false]; exact Ev.now _
  have h1 := shRated_ev w r (by omega) (by omega)
  have h2 := areRated_f w r
  cases hb : widthsB w && ratesB r
  · rw [hb] at h1 h2
    refine law_of w r [] 0 false hw hr (by simp) ?_ ?_
    · unfold spec_BestOrder.f
      exact Ev.bind h1 (Ev.now _)
    · unfold impl_BestOrder.f
      rw [h2]; exact Ev.now _
  · have h3 := hb
    rw [Bool.and_eq_true] at h3
    have h4 := widths_bounds h3.1
    have h5 := rates_bounds h3.2
    have hg : ShGood w r := ⟨h4.2.2, by omega, h5.2.2, by omega, by omega⟩
    obtain ⟨st, hst, e1, e2⟩ := order_ev hg
    have h100 : r.length ≤ 100 := by omega
    rw [hb] at h1 h2
    refine law_of w r st.1 st.2 true hw hr (by omega) ?_ ?_
    · unfold spec_BestOrder.f
      refine Ev.bind h1 ?_
      simp only [if_true, h100]
      exact Ev.bind e1 (Ev.now _)
    · unfold impl_BestOrder.f
      rw [h2]
      simp only [Option.bind_some, if_true, h100]
      exact Ev.bind e2 (Ev.now _)

end Go.Proofs.Ytcnancjkajbldaa.Pure
