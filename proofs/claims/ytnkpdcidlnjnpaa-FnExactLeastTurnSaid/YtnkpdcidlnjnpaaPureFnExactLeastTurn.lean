/- For every text LeastTurn gives the reference's answer: the plain part. -/
import Derived.Test.YtnkpdcidlnjnpaaPx3
import Derived.Test.YtnkpdcidlnjnpaaPx4
import Derived.Test.YtnkpdcidlnjnpaaMBase
import Derived.Test.YtnkpdcidlnjnpaaMFence
import Derived.Test.YtnkpdcidlnjnpaaMStood
import Derived.Test.YtnkpdcidlnjnpaaMPlain
namespace Go.Proofs.Ytnkpdcidlnjnpaa.Pure
open Go.RowKit Go.Proofs.Ytnkpdcidlnjnpaa.P Go.Proofs.YtnkpdcidlnjnpaaW.PrintWords Go.Proofs.Ytnkpdcidlnjnpaa.M
set_option linter.unusedVariables false
set_option linter.unusedSimpArgs false

theorem law_of (s : ByteArray) (r0 : ByteArray) (r1 : Int) (r2 : Bool) (hb_s : ¬ ((s.size : Int) > 1048576)) (hs : Ev (fun k => spec_LeastTurn.f k s) (r0, r1, r2)) (hi : Ev (fun k => impl_LeastTurn.f k s) (r0, r1, r2)) : Ev (fun k => laws_FnExactLeastTurn.f k s) true := by
  unfold laws_FnExactLeastTurn.f
  repeat (first
    | exact Ev.now _
    | (with_reducible refine Ev.bind hs ?_)
    | (with_reducible refine Ev.bind hi ?_)
    | simp only [if_true, if_false, bne_self_eq_false, Bool.false_eq_true, Option.bind_some, hb_s]
    )

theorem loop (s : ByteArray) (hs : s.size ≤ 20) (d : Nat) : ∀ (i : Nat) (best : ByteArray) (a : Int), i ≤ s.size → s.size - i = d → Ev (fun k => impl_LeastTurn.l0 k s best a (s.size : Int) (i : Int)) ((leastOf_ s d i best a).1, (leastOf_ s d i best a).2, true) := by
  induction d with
  | zero =>
    intro i best a hi hd
    refine Ev.step (f := fun _ => some _) (fun k => ?_) (Ev.now _)
    simp only [impl_LeastTurn.l0]
    rw [if_neg (by omega)]
    rfl
  | succ d ih =>
    intro i best a hi hd
    have ht : impl_turned.f s (i : Int) = some (turnOf s i) := by
      unfold impl_turned.f
      have c3 : (s.extract (i : Int).toNat s.size).size + (s.extract 0 (i : Int).toNat).size ≤ 9223372036854775807 := by
        rw [ByteArray.size_extract, ByteArray.size_extract]; omega
      rw [if_pos (by omega), if_pos (by omega), if_pos c3]
      rfl
    have hw : wrap64 ((i : Int) + 1) = ((i + 1 : Nat) : Int) := by rw [wrap_id (by omega) (by omega)]; rfl
    by_cases hl : Op.bytesLess (turnOf s i).toList best.toList = true
    · refine Ev.step (fun k => ?_) (evTo (by simp only [leastOf_, hl, if_true]) (ih (i + 1) (turnOf s i) (i : Int) (by omega) (by omega)))
      simp only [impl_LeastTurn.l0]
      rw [if_pos (by omega), ht]
      simp only [Option.bind_some, hl, if_true, hw]
    · refine Ev.step (fun k => ?_) (evTo (by simp only [leastOf_]; rw [if_neg hl]) (ih (i + 1) best a (by omega) (by omega)))
      simp only [impl_LeastTurn.l0]
      rw [if_pos (by omega), ht]
      simp only [Option.bind_some, hw]
      rw [if_neg hl]
theorem FnExactLeastTurn : laws_FnExactLeastTurn.Pure := by
  intro s _
  refine Ev.rounds ?_
  by_cases hs : (s.size : Int) > 1048576
  · unfold laws_FnExactLeastTurn.f
    simp only [hs, if_true]; exact Ev.now _
  have h1 := coFence_ev s true
  have h2 := isStood_f s true
  cases hb : stoodB s true
  · rw [hb] at h1 h2
    refine law_of s ⟨#[]⟩ 0 false hs ?_ ?_
    · unfold spec_LeastTurn.f
      exact Ev.bind h1 (Ev.now _)
    · unfold impl_LeastTurn.f
      rw [h2]; exact Ev.now _
  · rw [hb] at h1 h2
    have hz := stood_size hb
    have hf : fenceB s = true := by unfold stoodB at hb; rw [Bool.and_eq_true] at hb; exact hb.1
    have hp := fence_plain hf
    refine law_of s (leastOf_ s s.size 0 s 0).1 (leastOf_ s s.size 0 s 0).2 true hs ?_ ?_
    · unfold spec_LeastTurn.f
      refine Ev.bind h1 ?_
      simp only [if_true, hp]
      exact Ev.now _
    · unfold impl_LeastTurn.f
      rw [h2]
      exact loop s (by omega) s.size 0 s 0 (Nat.zero_le _) rfl

end Go.Proofs.Ytnkpdcidlnjnpaa.Pure
