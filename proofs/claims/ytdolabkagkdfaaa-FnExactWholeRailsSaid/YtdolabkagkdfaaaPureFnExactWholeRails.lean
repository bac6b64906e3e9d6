/- For all arguments WholeRails gives the reference's answer, in memory of its own, and leaves the list alone: the plain part. -/
import Derived.Test.YtdolabkagkdfaaaPx19
import Derived.Test.YtdolabkagkdfaaaPx20
import Derived.Test.YtdolabkagkdfaaaPx21
import Derived.Test.YtdolabkagkdfaaaMBase
import Derived.Test.YtdolabkagkdfaaaMInts
import Derived.Test.YtdolabkagkdfaaaMAll
import Derived.Test.YtdolabkagkdfaaaMPosts
import Derived.Test.YtdolabkagkdfaaaMRoot
import Derived.Test.YtdolabkagkdfaaaMGround
namespace Go.Proofs.Ytdolabkagkdfaaa.Pure
open Go.RowKit Go.Proofs.Ytdolabkagkdfaaa.P Go.Proofs.YtdolabkagkdfaaaW.PrintWords Go.Proofs.Ytdolabkagkdfaaa.M
set_option linter.unusedVariables false
set_option linter.unusedSimpArgs false

theorem law_of (w : List Int) (g : Int) (r0 : List Int) (r1 : Bool) (hb_w : ¬ ((w.length : Int) > 1048576)) (ho_r0 : r0.length ≤ 1000000) (hs : Ev (fun k => spec_WholeRails.f k w g) (r0, r1)) (hi : Ev (fun k => impl_WholeRails.f k w g) (r0, r1)) : Ev (fun k => laws_FnExactWholeRails.f k w g) true := by
  have ht_w := toIntS_ev w (by omega)
  have he_w := eqIntS_same w (by omega)
  obtain ⟨z_w, hm_w⟩ := markIntS_any w (1) (by omega) (by omega) (by omega)
  have hn_ : ¬ (1 + (w.length : Int) < 0) := by omega
  have he_r0 := eqIntS_same r0 (by omega)
  have hm_r0 := markIntS_ev r0 (by omega)
  have hh_r0 := heldIntS_ev r0.length (by omega)
  have hn_r0 : ¬ ((r0.length : Int) + 1 < 0) := by omega
  unfold laws_FnExactWholeRails.f
  repeat (first
    | exact Ev.now _
    | (with_reducible refine Ev.bind hs ?_)
    | (with_reducible refine Ev.bind hi ?_)
    | (with_reducible refine Ev.bind ht_w ?_)
    | (with_reducible refine Ev.bind he_w ?_)
    | (with_reducible refine Ev.bind hm_w ?_)
    | (with_reducible refine Ev.bind he_r0 ?_)
    | (with_reducible refine Ev.bind hm_r0 ?_)
    | (with_reducible refine Ev.bind hh_r0 ?_)
    | simp only [if_true, if_false, bne_self_eq_false, Bool.false_eq_true, Option.bind_some, hb_w, hn_, hn_r0]
    | (refine Ev.step (fun k => rfl) ?_; simp only [laws_FnExactWholeRails.j0, if_true, if_false, bne_self_eq_false, Bool.false_eq_true, Option.bind_some, hb_w, hn_, hn_r0])
    | (refine Ev.step (fun k => rfl) ?_; simp only [laws_FnExactWholeRails.j1, if_true, if_false, bne_self_eq_false, Bool.false_eq_true, Option.bind_some, hb_w, hn_, hn_r0])
    | (refine Ev.step (fun k => rfl) ?_; simp only [laws_FnExactWholeRails.j2, if_true, if_false, bne_self_eq_false, Bool.false_eq_true, Option.bind_some, hb_w, hn_, hn_r0])
    )

theorem loops (sq : List Int) (hl : sq.length ≤ 12) (hx : ∀ x ∈ sq, 0 ≤ x ∧ x ≤ 300000) (d : Nat) : ∀ (i : Nat) (out : List Int), i ≤ sq.length → sq.length - i = d → out.length = i →
    ∃ (r : List Int) (ok : Bool), r.length ≤ 12 ∧ Ev (fun k => spec_WholeRails.l0 k out sq (sq.length : Int) (i : Int)) (r, ok) ∧ Ev (fun k => impl_WholeRails.l0 k d (out ++ sq.drop i) i) (r, ok) := by
  induction d with
  | zero =>
    intro i out hi hd ho
    refine ⟨out, true, by omega, Ev.step (f := fun _ => some _) (fun k => ?_) (Ev.now _), ?_⟩
    · simp only [spec_WholeRails.l0]
      rw [if_neg (by omega)]
    · simp only [impl_WholeRails.l0]
      rw [List.drop_of_length_le (by omega), List.append_nil]
      exact Ev.now _
  | succ d ih =>
    intro i out hi hd ho
    have hlt : i < sq.length := by omega
    have hb := hx _ (List.getElem_mem hlt)
    have hout : out.length < 17592186044416 := by omega
    have i1 : i + 1 ≤ sq.length := by omega
    have i2 : sq.length - (i + 1) = d := by omega
    have u0 : i ≤ 1000 := by omega
    have c0 : (i : Int) < (sq.length : Int) := by omega
    have c1 : (0 : Int) ≤ (i : Int) := by omega
    have z0 : ¬ i < out.length := by omega
    have z1 : out.length ≤ i := by omega
    have hrd := rd_get sq i hlt
    have hget : (out ++ sq.drop i).getD i 0 = sq[i] := by
      rw [List.getD_eq_getElem?_getD, List.getElem?_append_right z1, ho, Nat.sub_self, List.drop_eq_getElem_cons hlt]
      rfl
    have hset : ∀ b : Int, (out ++ sq.drop i).set i b = (out ++ [b]) ++ sq.drop (i + 1) := by
      intro b
      rw [List.set_append, if_neg z0, ho, Nat.sub_self, List.drop_eq_getElem_cons hlt, List.set_cons_zero, List.append_assoc]
      rfl
    generalize sq[i] = x at hb hrd hget
    obtain ⟨n, rfl⟩ := Int.eq_ofNat_of_zero_le hb.1
    have hn : n ≤ 1000000000 := Nat.le_trans (Int.ofNat_le.1 hb.2) (by decide)
    obtain ⟨r, hr1, hr2, e1, t, e2, ht⟩ := roots_ev n hn
    have w1 := wn1 i u0
    have w2 := wsq r n hr2 hn
    by_cases hq : r * r = n
    · have htr := ht hq
      subst htr
      obtain ⟨q, ok, hq1, e3, e4⟩ := ih (i + 1) (out ++ [(t : Int)]) i1 i2 (by rw [List.length_append, ho]; rfl)
      refine ⟨q, ok, hq1, Ev.step (f := fun k => (spec_poRoot.f k (n : Int)).bind fun t391 => (if (wrap64 (t391 * t391)) = (n : Int) then spec_WholeRails.l0 k (out ++ [t391]) sq (sq.length : Int) ((i + 1 : Nat) : Int) else some ([], false))) (fun k => ?_) (Ev.bind e1 ?_), ?_⟩
      · simp only [spec_WholeRails.l0]
        rw [if_pos c0, if_pos c1, if_pos c0, hrd, w1]
        simp only [hout, if_true]
      · rw [w2, hq]
        simp only [if_true]
        exact e3
      · simp only [impl_WholeRails.l0, hget, hset]
        refine Ev.bind e2 ?_
        simp only [hq, decide_true, if_true]
        exact e4
    · refine ⟨[], false, by simp, Ev.step (f := fun k => (spec_poRoot.f k (n : Int)).bind fun t391 => (if (wrap64 (t391 * t391)) = (n : Int) then spec_WholeRails.l0 k (out ++ [t391]) sq (sq.length : Int) ((i + 1 : Nat) : Int) else some ([], false))) (fun k => ?_) (Ev.bind e1 ?_), ?_⟩
      · simp only [spec_WholeRails.l0]
        rw [if_pos c0, if_pos c1, if_pos c0, hrd, w1]
        simp only [hout, if_true]
      · have hne : ¬ (wrap64 ((r : Int) * (r : Int)) = (n : Int)) := by rw [w2]; exact fun h => hq (Int.ofNat_inj.1 h)
        simp only [hne, if_false]
        exact Ev.now _
      · simp only [impl_WholeRails.l0, hget]
        refine Ev.bind e2 ?_
        simp only [hq, decide_false, Bool.false_eq_true, if_false]
        exact Ev.now _
theorem FnExactWholeRails : laws_FnExactWholeRails.Pure := by
  intro w g _ _ _ _
  refine Ev.rounds ?_
  by_cases hw : (w.length : Int) > 1048576
  · unfold laws_FnExactWholeRails.f
    simp only [hw, if_true]; exact Ev.now _
  obtain ⟨sq, ok, hr, hb, hi, hok, h0, hs⟩ := squares_ev w g (by omega)
  have j : Ev (fun k => spec_WholeRails.j0 k w g true) ([], false) := by
    refine Ev.step (fun k => rfl) ?_
    simp only [spec_WholeRails.j0, if_true]
    exact Ev.now _
  cases hq : (groundB w && long g)
  · rw [hq] at hok
    subst hok
    refine law_of w g [] false hw (by simp) ?_ ?_
    · unfold spec_WholeRails.f
      refine Ev.bind (poGround_ev w (by omega)) ?_
      rw [poLong_f]
      cases hb2 : groundB w
      · exact j
      · rw [hb2, Bool.true_and] at hq
        simp only [if_true, Option.bind_some, hq, Bool.not_false]
        exact j
    · unfold impl_WholeRails.f
      exact Ev.bind hi (Ev.now _)
  · rw [hq] at hok
    subst hok
    rw [Bool.and_eq_true] at hq
    obtain ⟨r, ok, hr2, e1, e2⟩ := loops sq hr hb _ 0 [] (Nat.zero_le _) rfl rfl
    refine law_of w g r ok hw (by omega) ?_ ?_
    · unfold spec_WholeRails.f
      refine Ev.bind (poGround_ev w (by omega)) ?_
      rw [poLong_f, hq.1, hq.2]
      simp only [if_true, Option.bind_some, Bool.not_true]
      refine Ev.step (fun k => rfl) ?_
      simp only [spec_WholeRails.j0, Bool.false_eq_true, if_false]
      exact Ev.bind (hs rfl) e1
    · unfold impl_WholeRails.f
      refine Ev.bind hi ?_
      simp only [if_true]
      simpa using e2

end Go.Proofs.Ytdolabkagkdfaaa.Pure
