/- For all arguments FirstFit gives the reference's answer, in memory of its own: the plain part. -/
import Derived.Test.YtcnancjkajbldaaPx19
import Derived.Test.YtcnancjkajbldaaPx20
import Derived.Test.YtcnancjkajbldaaPx21
import Derived.Test.YtcnancjkajbldaaPx22
import Derived.Test.YtcnancjkajbldaaMBase
import Derived.Test.YtcnancjkajbldaaMInts
import Derived.Test.YtcnancjkajbldaaMAll
import Derived.Test.YtcnancjkajbldaaMMax
import Derived.Test.YtcnancjkajbldaaMFit
namespace Go.Proofs.Ytcnancjkajbldaa.Pure
open Go.RowKit Go.Proofs.Ytcnancjkajbldaa.P Go.Proofs.YtcnancjkajbldaaW.PrintWords Go.Proofs.Ytcnancjkajbldaa.M
set_option linter.unusedVariables false
set_option linter.unusedSimpArgs false

theorem law_of (r : List Int) (b : Int) (r0 : List Int) (r1 : Bool) (hb_r : ¬ ((r.length : Int) > 1048576)) (ho_r0 : r0.length ≤ 1000000) (hs : Ev (fun k => spec_FirstFit.f k r b) (r0, r1)) (hi : Ev (fun k => impl_FirstFit.f k r b) (r0, r1)) : Ev (fun k => laws_FnExactFirstFit.f k r b) true := by
  have ht_r := toIntS_ev r (by omega)
  have he_r := eqIntS_same r (by omega)
  obtain ⟨z_r, hm_r⟩ := markIntS_any r (1) (by omega) (by omega) (by omega)
  have hn_ : ¬ (1 + (r.length : Int) < 0) := by omega
  have he_r0 := eqIntS_same r0 (by omega)
  have hm_r0 := markIntS_ev r0 (by omega)
  have hh_r0 := heldIntS_ev r0.length (by omega)
  have hn_r0 : ¬ ((r0.length : Int) + 1 < 0) := by omega
  unfold laws_FnExactFirstFit.f
  repeat (first
    | exact Ev.now _
    | (with_reducible refine Ev.bind hs ?_)
    | (with_reducible refine Ev.bind hi ?_)
    | (with_reducible refine Ev.bind ht_r ?_)
    | (with_reducible refine Ev.bind he_r ?_)
    | (with_reducible refine Ev.bind hm_r ?_)
    | (with_reducible refine Ev.bind he_r0 ?_)
    | (with_reducible refine Ev.bind hm_r0 ?_)
    | (with_reducible refine Ev.bind hh_r0 ?_)
    | simp only [if_true, if_false, bne_self_eq_false, Bool.false_eq_true, Option.bind_some, hb_r, hn_, hn_r0]
    | (refine Ev.step (fun k => rfl) ?_; simp only [laws_FnExactFirstFit.j0, if_true, if_false, bne_self_eq_false, Bool.false_eq_true, Option.bind_some, hb_r, hn_, hn_r0])
    | (refine Ev.step (fun k => rfl) ?_; simp only [laws_FnExactFirstFit.j1, if_true, if_false, bne_self_eq_false, Bool.false_eq_true, Option.bind_some, hb_r, hn_, hn_r0])
    | (refine Ev.step (fun k => rfl) ?_; simp only [laws_FnExactFirstFit.j2, if_true, if_false, bne_self_eq_false, Bool.false_eq_true, Option.bind_some, hb_r, hn_, hn_r0])
    )

theorem FnExactFirstFit : laws_FnExactFirstFit.Pure := by
  intro r b _ _ _ _
  refine Ev.rounds ?_
  by_cases hw : (r.length : Int) > 1048576
  · unfold laws_FnExactFirstFit.f
    simp only [hw, if_true]; exact Ev.now _
  have h1 := poGood_ev r (by omega)
  have h2 := areBarred_f r b
  have h3 := poLong_f b
  cases hb : railsB r
  · rw [hb] at h1 h2
    refine law_of r b [] false hw (by simp) ?_ ?_
    · unfold spec_FirstFit.f
      refine Ev.bind (show Ev (fun k => spec_poFits.f k r b) false from ?_) (Ev.now _)
      unfold spec_poFits.f
      exact Ev.bind h1 (Ev.now _)
    · unfold impl_FirstFit.f
      rw [h2]; exact Ev.now _
  · rw [hb] at h1 h2
    have h4 := rails_bounds hb
    cases hl : long b
    · rw [hl] at h2 h3
      refine law_of r b [] false hw (by simp) ?_ ?_
      · unfold spec_FirstFit.f
        refine Ev.bind (show Ev (fun k => spec_poFits.f k r b) false from ?_) (Ev.now _)
        unfold spec_poFits.f
        refine Ev.bind h1 ?_
        simp only [if_true]
        rw [h3]
        exact Ev.now _
      · unfold impl_FirstFit.f
        rw [h2]; exact Ev.now _
    · rw [hl] at h2 h3
      cases hr : r with
      | nil => rw [hr] at h4; simp at h4
      | cons x0 rest =>
        have ha := all_max r b (fun x hx => (h4.2.2 x hx).1) x0 rest hr
        have hall := l1All_ev r 1 b (by omega)
        rw [ha] at hall
        have hm := max_ev x0 rest (by rw [hr] at h4; simp at h4; omega)
        rw [← hr] at hm ⊢
        by_cases c : maxL x0 rest > b
        · rw [show decide (¬ maxL x0 rest > b) = false from decide_eq_false (fun h => h c)] at hall
          refine law_of r b [] false hw (by simp) ?_ ?_
          · unfold spec_FirstFit.f
            refine Ev.bind (show Ev (fun k => spec_poFits.f k r b) false from ?_) (Ev.now _)
            unfold spec_poFits.f
            refine Ev.bind h1 ?_
            simp only [if_true]
            rw [h3]
            simp only [Option.bind_some, if_true]
            exact Ev.bind hall (Ev.now _)
          · unfold impl_FirstFit.f
            rw [h2]
            simp only [Option.bind_some, Bool.and_self, if_true]
            refine Ev.bind hm ?_
            rw [if_pos c]
            exact Ev.now _
        · rw [show decide (¬ maxL x0 rest > b) = true from decide_eq_true c] at hall
          have hfit := fit_l0 b r (by omega) r.length 0 [] [] (by omega) (Nat.le_refl _) (Nat.le_refl _)
          rw [List.drop_zero] at hfit
          refine law_of r b (impl_FirstFit.l0 b r [] []) true hw (by rw [fitOut_len]; simp; omega) ?_ ?_
          · unfold spec_FirstFit.f
            refine Ev.bind (show Ev (fun k => spec_poFits.f k r b) true from ?_) ?_
            · unfold spec_poFits.f
              refine Ev.bind h1 ?_
              simp only [if_true]
              rw [h3]
              simp only [Option.bind_some, if_true]
              exact Ev.bind hall (Ev.now _)
            · simp only [if_true]
              exact hfit
          · unfold impl_FirstFit.f
            rw [h2]
            simp only [Option.bind_some, Bool.and_self, if_true]
            refine Ev.bind hm ?_
            rw [if_neg c, if_pos (by omega)]
            exact Ev.now _

end Go.Proofs.Ytcnancjkajbldaa.Pure
