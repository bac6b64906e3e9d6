/- For all arguments CountShares gives the reference's answer: the plain part. -/
import Derived.Test.YtcnancjkajbldaaPx13
import Derived.Test.YtcnancjkajbldaaPx15
import Derived.Test.YtcnancjkajbldaaPx16
import Derived.Test.YtcnancjkajbldaaMBase
import Derived.Test.YtcnancjkajbldaaMInts
import Derived.Test.YtcnancjkajbldaaMAll
import Derived.Test.YtcnancjkajbldaaMShare
import Derived.Test.YtcnancjkajbldaaMShares
import Derived.Test.YtcnancjkajbldaaMLeast
import Derived.Test.YtcnancjkajbldaaMFirst
import Derived.Test.YtcnancjkajbldaaMCount
namespace Go.Proofs.Ytcnancjkajbldaa.Pure
open Go.RowKit Go.Proofs.Ytcnancjkajbldaa.P Go.Proofs.YtcnancjkajbldaaW.PrintWords Go.Proofs.Ytcnancjkajbldaa.M
set_option linter.unusedVariables false
set_option linter.unusedSimpArgs false

theorem law_of (w : List Int) (p : Int) (r0 : Int) (r1 : Bool) (hb_w : ¬ ((w.length : Int) > 1048576)) (hs : Ev (fun k => spec_CountShares.f k w p) (r0, r1)) (hi : Ev (fun k => impl_CountShares.f k w p) (r0, r1)) : Ev (fun k => laws_FnExactCountShares.f k w p) true := by
  have ht_w := toIntS_ev w (by omega)
  have he_w := eqIntS_same w (by omega)
  unfold laws_FnExactCountShares.f
  repeat (first
    | exact Ev.now _
    | (with_reducible refine Ev.bind hs ?_)
    | (with_reducible refine Ev.bind hi ?_)
    | (with_reducible refine Ev.bind ht_w ?_)
    | (with_reducible refine Ev.bind he_w ?_)
    | simp only [if_true, if_false, bne_self_eq_false, Bool.false_eq_true, Option.bind_some, hb_w]
    | (refine Ev.step (fun k => rfl) ?_; simp only [laws_FnExactCountShares.j0, if_true, if_false, bne_self_eq_false, Bool.false_eq_true, Option.bind_some, hb_w])
    )

theorem FnExactCountShares : laws_FnExactCountShares.Pure := by
  intro w p _ _ _ _
  refine Ev.rounds ?_
  by_cases hw : (w.length : Int) > 1048576
  · unfold laws_FnExactCountShares.f
    simp only [hw, if_true]; exact Ev.now _
  have h1 := shPainters_ev w p (by omega)
  have h2 := arePainted_f w p
  cases hb : widthsB w && inn 1 5 p
  · rw [hb] at h1 h2
    refine law_of w p 0 false hw ?_ ?_
    · unfold spec_CountShares.f
      exact Ev.bind h1 (Ev.now _)
    · unfold impl_CountShares.f
      rw [h2]; exact Ev.now _
  · have h3 := hb
    rw [Bool.and_eq_true] at h3
    have h4 := widths_bounds h3.1
    have h5 := (inn_iff 1 5 p).1 h3.2
    obtain ⟨q, rfl⟩ := Int.eq_ofNat_of_zero_le (show 0 ≤ p by omega)
    have hq : q ≤ 5 := by omega
    have hq0 : 0 < q := by omega
    have hg : ShGood w (List.replicate q 1) := ⟨h4.2.2, by omega, fun x hx => by rw [List.eq_of_mem_replicate hx]; omega, by rw [List.length_replicate]; exact hq, by rw [List.length_replicate]; exact hq0⟩
    obtain ⟨f, hf1, hf2, hf⟩ := leastTime_ev hg
    have hsame := same_ev q hq
    have hones : impl_ones.f (q : Int) = some (List.replicate q 1) := by
      unfold impl_ones.f
      rw [if_pos ⟨by omega, by omega⟩, Int.toNat_natCast]
    rw [hb] at h1 h2
    have hcnt := shCount_ev w hg.wx hg.wl (Lf (List.replicate q 1) w) (q - 1) 0 (by omega) (Nat.zero_le _)
    rw [List.drop_zero] at hcnt
    unfold cnt at hcnt
    rw [show q - 1 + 1 = q from by omega] at hcnt
    have hcl : (List.replicate q (1 : Int)).length - 1 = q - 1 := by rw [List.length_replicate]
    rw [← hcl] at hcnt
    refine law_of w (q : Int) ((shL ((List.replicate q (1 : Int)).length - 1) w.length).countP (fun s => decide (val w (List.replicate q 1) s ≤ Lf (List.replicate q 1) w)) : Int) true hw ?_ ?_
    · unfold spec_CountShares.f
      refine Ev.bind h1 ?_
      simp only [if_true]
      refine Ev.bind hsame ?_
      refine Ev.bind (shLeast_all hg) ?_
      exact Ev.bind hcnt (Ev.now _)
    · unfold impl_CountShares.f
      rw [h2]
      simp only [Option.bind_some, if_true]
      rw [hones]
      simp only [Option.bind_some]
      exact Ev.bind hf (Ev.now _)

end Go.Proofs.Ytcnancjkajbldaa.Pure
