/- For all arguments GreedyShare gives the reference's answer, in memory of its own, and leaves the list alone: the plain part. -/
import Derived.Test.YtmnafjlpfndnmaaPx24
import Derived.Test.YtmnafjlpfndnmaaPx25
import Derived.Test.YtmnafjlpfndnmaaPx26
import Derived.Test.YtmnafjlpfndnmaaMBase
import Derived.Test.YtmnafjlpfndnmaaMInts
import Derived.Test.YtmnafjlpfndnmaaMAll
import Derived.Test.YtmnafjlpfndnmaaMShare
import Derived.Test.YtmnafjlpfndnmaaMMax
import Derived.Test.YtmnafjlpfndnmaaMGreedy
namespace Go.Proofs.Ytmnafjlpfndnmaa.Pure
open Go.RowKit Go.Proofs.Ytmnafjlpfndnmaa.P Go.Proofs.YtmnafjlpfndnmaaW.PrintWords Go.Proofs.Ytmnafjlpfndnmaa.M
set_option linter.unusedVariables false
set_option linter.unusedSimpArgs false

theorem law_of (w : List Int) (m : Int) (r0 : List Int) (r1 : Bool) (hb_w : ¬ ((w.length : Int) > 1048576)) (ho_r0 : r0.length ≤ 1000000) (hs : Ev (fun k => spec_GreedyShare.f k w m) (r0, r1)) (hi : Ev (fun k => impl_GreedyShare.f k w m) (r0, r1)) : Ev (fun k => laws_FnExactGreedyShare.f k w m) true := by
  have ht_w := toIntS_ev w (by omega)
  have he_w := eqIntS_same w (by omega)
  obtain ⟨z_w, hm_w⟩ := markIntS_any w (1) (by omega) (by omega) (by omega)
  have hn_ : ¬ (1 + (w.length : Int) < 0) := by omega
  have he_r0 := eqIntS_same r0 (by omega)
  have hm_r0 := markIntS_ev r0 (by omega)
  have hh_r0 := heldIntS_ev r0.length (by omega)
  have hn_r0 : ¬ ((r0.length : Int) + 1 < 0) := by omega
  unfold laws_FnExactGreedyShare.f
  repeat (first
    | exact Ev.now _
    | (with_reducible refine Ev.bind hs ?_)
    | (with_reducible refine Ev.bind hi ?_)
    | (with_reducible refine Ev.bind ht_w ?_)
    | (with_reducible refine Ev.bind he_w ?_)
    | (with_reducible refine Ev.bind hm_w ?_)
    | (with_reducible refine Ev.bind he_r0 ?_)
    | (with_reducible refine Ev.bind hm_r0 ?_)
    | (with_reducible refine Ev.bind hh_r0 ?_)
    | simp only [if_true, if_false, bne_self_eq_false, Bool.false_eq_true, Option.bind_some, hb_w, hn_, hn_r0]
    | (refine Ev.step (fun k => rfl) ?_; simp only [laws_FnExactGreedyShare.j0, if_true, if_false, bne_self_eq_false, Bool.false_eq_true, Option.bind_some, hb_w, hn_, hn_r0])
    | (refine Ev.step (fun k => rfl) ?_; simp only [laws_FnExactGreedyShare.j1, if_true, if_false, bne_self_eq_false, Bool.false_eq_true, Option.bind_some, hb_w, hn_, hn_r0])
    | (refine Ev.step (fun k => rfl) ?_; simp only [laws_FnExactGreedyShare.j2, if_true, if_false, bne_self_eq_false, Bool.false_eq_true, Option.bind_some, hb_w, hn_, hn_r0])
    )

theorem FnExactGreedyShare : laws_FnExactGreedyShare.Pure := by
  intro w m _ _ _ _
  refine Ev.rounds ?_
  by_cases hw : (w.length : Int) > 1048576
  · unfold laws_FnExactGreedyShare.f
    simp only [hw, if_true]; exact Ev.now _
  obtain ⟨r, ok, hr, h0, hi, hs, hn⟩ := greedy_ev w m (by omega)
  refine law_of w m r ok hw (by omega) ?_ hi
  unfold spec_GreedyShare.f
  refine Ev.bind (shMost_ev w m (by omega)) ?_
  cases hb : widthsB w && inn 1 30000 m
  · have h1 := hn hb
    subst h1
    rw [h0 rfl]
    exact Ev.now _
  · simp only [if_true]
    exact Ev.bind (hs hb) (Ev.now _)

end Go.Proofs.Ytmnafjlpfndnmaa.Pure
