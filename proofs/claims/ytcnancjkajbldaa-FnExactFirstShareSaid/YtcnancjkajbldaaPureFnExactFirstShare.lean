/- For all arguments FirstShare gives the reference's answer: the plain part. -/
import Derived.Test.YtcnancjkajbldaaPx13
import Derived.Test.YtcnancjkajbldaaPx17
import Derived.Test.YtcnancjkajbldaaPx18
import Derived.Test.YtcnancjkajbldaaMBase
import Derived.Test.YtcnancjkajbldaaMInts
import Derived.Test.YtcnancjkajbldaaMAll
import Derived.Test.YtcnancjkajbldaaMShare
import Derived.Test.YtcnancjkajbldaaMShares
import Derived.Test.YtcnancjkajbldaaMLeast
import Derived.Test.YtcnancjkajbldaaMFirst
import Derived.Test.YtcnancjkajbldaaMCount
namespace Go.Proofs.Ytcnancjkajbldaa.Pure
open Go.RowKit Go.Proofs.Ytcnancjkajbldaa.P Go.Proofs.YtcnancjkajbldaaW.PrintWords Go.Proofs.Ytcnancjkajbldaa.M
set_option linter.unusedVariables false
set_option linter.unusedSimpArgs false

theorem law_of (w : List Int) (p : Int) (r0 : List Int) (r1 : Bool) (hb_w : ¬ ((w.length : Int) > 1048576)) (ho_r0 : r0.length ≤ 1000000) (hs : Ev (fun k => spec_FirstShare.f k w p) (r0, r1)) (hi : Ev (fun k => impl_FirstShare.f k w p) (r0, r1)) : Ev (fun k => laws_FnExactFirstShare.f k w p) true := by
  have ht_w := toIntS_ev w (by omega)
  have he_w := eqIntS_same w (by omega)
  obtain ⟨z_w, hm_w⟩ := markIntS_any w (1) (by omega) (by omega) (by omega)
  have hn_ : ¬ (1 + (w.length : Int) < 0) := by omega
  have he_r0 := eqIntS_same r0 (by omega)
  have hm_r0 := markIntS_ev r0 (by omega)
  have hh_r0 := heldIntS_ev r0.length (by omega)
  have hn_r0 : ¬ ((r0.length : Int) + 1 < 0) := by omega
  unfold laws_FnExactFirstShare.f
  repeat (first
    | exact Ev.now _
    | (with_reducible refine Ev.bind hs ?_)
    | (with_reducible refine Ev.bind hi ?_)
    | (with_reducible refine Ev.bind ht_w ?_)
    | (with_reducible refine Ev.bind he_w ?_)
    | (with_reducible refine Ev.bind hm_w ?_)
    | (with_reducible refine Ev.bind he_r0 ?_)
    | (with_reducible refine Ev.bind hm_r0 ?_)
    | (with_reducible refine Ev.bind hh_r0 ?_)
    | simp only [if_true, if_false, bne_self_eq_false, Bool.false_eq_true, Option.bind_some, hb_w, hn_, hn_r0]
    | (refine Ev.step (fun k => rfl) ?_; simp only [laws_FnExactFirstShare.j0, if_true, if_false, bne_self_eq_false, Bool.false_eq_true, Option.bind_some, hb_w, hn_, hn_r0])
    | (refine Ev.step (fun k => rfl) ?_; simp only [laws_FnExactFirstShare.j1, if_true, if_false, bne_self_eq_false, Bool.false_eq_true, Option.bind_some, hb_w, hn_, hn_r0])
    | (refine Ev.step (fun k => rfl) ?_; simp only [laws_FnExactFirstShare.j2, if_true, if_false, bne_self_eq_false, Bool.false_eq_true, Option.bind_some, hb_w, hn_, hn_r0])
    )

theorem FnExactFirstShare : laws_FnExactFirstShare.Pure := by
  intro w p _ _ _ _
  refine Ev.rounds ?_
  by_cases hw : (w.length : Int) > 1048576
  · unfold laws_FnExactFirstShare.f
    simp only [hw, if_true]; exact Ev.now _
  have h1 := shPainters_ev w p (by omega)
  have h2 := arePainted_f w p
  cases hb : widthsB w && inn 1 5 p
  · rw [hb] at h1 h2
    refine law_of w p [] false hw (by simp) ?_ ?_
    · unfold spec_FirstShare.f
      exact Ev.bind h1 (Ev.now _)
    · unfold impl_FirstShare.f
      rw [h2]; exact Ev.now _
  · have h3 := hb
    rw [Bool.and_eq_true] at h3
    have h4 := widths_bounds h3.1
    have h5 := (inn_iff 1 5 p).1 h3.2
    obtain ⟨q, rfl⟩ := Int.eq_ofNat_of_zero_le (show 0 ≤ p by omega)
    have hq : q ≤ 5 := by omega
    have hq0 : 0 < q := by omega
    have hg : ShGood w (List.replicate q 1) := ⟨h4.2.2, by omega, fun x hx => by rw [List.eq_of_mem_replicate hx]; omega, by rw [List.length_replicate]; exact hq, by rw [List.length_replicate]; exact hq0⟩
    obtain ⟨f, hf1, hf2, hf⟩ := leastTime_ev hg
    have hsame := same_ev q hq
    have hones : impl_ones.f (q : Int) = some (List.replicate q 1) := by
      unfold impl_ones.f
      rw [if_pos ⟨by omega, by omega⟩, Int.toNat_natCast]
    rw [hb] at h1 h2
    refine law_of w (q : Int) f true hw (by rw [List.length_replicate] at hf2; omega) ?_ ?_
    · unfold spec_FirstShare.f
      refine Ev.bind h1 ?_
      simp only [if_true]
      refine Ev.bind hsame ?_
      refine Ev.bind (shLeast_all hg) ?_
      exact Ev.bind (shFirst_all hg _ f hf1) (Ev.now _)
    · unfold impl_FirstShare.f
      rw [h2]
      simp only [Option.bind_some, if_true]
      rw [hones]
      simp only [Option.bind_some]
      exact Ev.bind hf (Ev.now _)

end Go.Proofs.Ytcnancjkajbldaa.Pure
