/- For all numbers WholePlaces gives the reference's answer: the plain part. -/
import Derived.Test.YtdolabkagkdfaaaPx10
import Derived.Test.YtdolabkagkdfaaaPx6
import Derived.Test.YtdolabkagkdfaaaPx7
import Derived.Test.YtdolabkagkdfaaaPx9
import Derived.Test.YtdolabkagkdfaaaMPosts
import Derived.Test.YtdolabkagkdfaaaMBase
import Derived.Test.YtdolabkagkdfaaaMInts
namespace Go.Proofs.Ytdolabkagkdfaaa.Pure
open Go.RowKit Go.Proofs.Ytdolabkagkdfaaa.P Go.Proofs.YtdolabkagkdfaaaW.PrintWords Go.Proofs.Ytdolabkagkdfaaa.M
set_option linter.unusedVariables false
set_option linter.unusedSimpArgs false

theorem law_of (a : Int) (b : Int) (out : List Int) (ok : Bool) (ho : out.length ≤ 1000000) (hs : Ev (fun k => spec_WholePlaces.f k a b) (out, ok)) (hi : Ev (fun k => impl_WholePlaces.f k a b) (out, ok)) : Ev (fun k => laws_FnExactWholePlaces.f k a b) true := by
  have he := eqIntS_same out (by omega)
  have hm := markIntS_ev out (by omega)
  have hh := heldIntS_ev out.length (by omega)
  have hneg : ¬ ((out.length : Int) + 1 < 0) := by omega
  unfold laws_FnExactWholePlaces.f
  refine Ev.bind hs (Ev.bind hi (Ev.bind he ?_))
  simp only [if_true, bne_self_eq_false]
  refine Ev.step (f := fun k => (laws_markIntS.f k out 1).bind fun bt196 => ((laws_heldIntS.f k bt196.2 1).bind fun t198 => (if t198 < 0 then (some false) else (if t198 = bt196.1 then ((impl_WholePlaces.f k a b).bind fun bt199 => ((laws_eqIntS.f k bt199.1 out).bind fun t203 => (if t203 = true then (laws_FnExactWholePlaces.j1 k bt196.2 bt196.1 (bt199.2 != ok)) else (laws_FnExactWholePlaces.j1 k bt196.2 bt196.1 true)))) else (some false))))) (fun k => ?_) ?_
  · simp only [laws_FnExactWholePlaces.j0, Bool.false_eq_true, if_false]
  refine Ev.bind hm (Ev.bind hh ?_)
  simp only [hneg, if_false, if_true]
  refine Ev.bind hi (Ev.bind he ?_)
  simp only [if_true, bne_self_eq_false]
  refine Ev.step (f := fun k => (laws_heldIntS.f k (marked out.length) 1).bind fun t204 => (if t204 < 0 then (some false) else (if t204 = ((out.length : Int) + 1) then (some true) else (some false)))) (fun k => ?_) ?_
  · simp only [laws_FnExactWholePlaces.j1, Bool.false_eq_true, if_false]
  refine Ev.bind hh (Ev.const ?_)
  rw [if_neg hneg, if_pos rfl]

theorem loops (long p : Int) (h2 : 1 ≤ p ∧ p ≤ 500) (d : Nat) : ∀ (xs : List Int) (i : Int), 0 ≤ i → (xs.length : Int) = i → (p + 1 - i).toNat = d → i ≤ p + 1 →
    ∃ out : List Int, out.length ≤ 2000 ∧ Ev (fun k => spec_WholePlaces.l0 k long xs p i) (out, true) ∧ Ev (fun k => impl_WholePlaces.l0 k long xs p (p + 1) i) (out, true) := by
  induction d with
  | zero =>
    intro xs i h0 hx hd hi
    refine ⟨xs, by omega, Ev.step (f := fun _ => some _) (fun k => ?_) (Ev.now _), Ev.step (f := fun _ => some _) (fun k => ?_) (Ev.now _)⟩
    · simp only [spec_WholePlaces.l0]
      rw [if_neg (by omega)]
    · simp only [impl_WholePlaces.l0]
      rw [if_neg (by omega)]
  | succ d ih =>
    intro xs i h0 hx hd hi
    obtain ⟨out, ho, e1, e2⟩ := ih (xs ++ [wrap64 (Int.tdiv (wrap64 (i * long)) p)]) (i + 1) (by omega) (by simp; omega) (by omega) (by omega)
    refine ⟨out, ho, Ev.step (fun k => ?_) e1, Ev.step (fun k => ?_) e2⟩
    · simp only [spec_WholePlaces.l0]
      rw [if_pos (by omega), if_neg (by omega), if_pos (by omega), wrap_id (a := i + 1) (by omega) (by omega)]
    · simp only [impl_WholePlaces.l0]
      rw [if_pos (by omega), if_neg (by omega), if_pos (by omega), wrap_id (a := i + 1) (by omega) (by omega)]
theorem FnExactWholePlaces : laws_FnExactWholePlaces.Pure := by
  intro a b ha hb
  refine Ev.rounds ?_
  cases h1 : long a <;> cases h2 : long b
  case true.true =>
    have hp := parts_range a b h1 h2
    obtain ⟨out, ho, e1, e2⟩ := loops a (parts a b) hp _ [] 0 (by omega) (by simp) rfl (by omega)
    refine law_of a b out true (by omega) ?_ ?_
    · unfold spec_WholePlaces.f
      simp only [poLong_f, h1, h2, Option.bind_some, if_true, Bool.not_true]
      refine Ev.step (fun k => ?_) e1
      simp only [spec_WholePlaces.j0, Bool.false_eq_true, if_false, poParts_f a b h1 h2, Option.bind_some]
    · unfold impl_WholePlaces.f
      simp only [areLong_f, List.all_cons, List.all_nil, Bool.and_true, h1, h2, Option.bind_some, if_true, up_f a b h1 h2]
      rw [wrap_id (by omega) (by omega)]
      exact e2
  all_goals
    refine law_of a b [] false (by simp) ?_ ?_
    · unfold spec_WholePlaces.f
      simp only [poLong_f, h1, h2, Option.bind_some, if_true, Bool.not_false, Bool.false_eq_true, if_false]
      refine Ev.step (f := fun _ => some _) (fun k => ?_) (Ev.now _)
      simp only [spec_WholePlaces.j0, if_true]
    · unfold impl_WholePlaces.f
      simp only [areLong_f, List.all_cons, List.all_nil, h1, h2, Option.bind_some]
      exact Ev.now _

end Go.Proofs.Ytdolabkagkdfaaa.Pure
