/- For all texts JoinFences gives the reference's answer: the plain part. -/
import Derived.Test.YtoiondajpccobaaPx2
import Derived.Test.YtoiondajpccobaaPx3
import Derived.Test.YtoiondajpccobaaMBase
import Derived.Test.YtoiondajpccobaaMFence
namespace Go.Proofs.Ytoiondajpccobaa.Pure
open Go.RowKit Go.Proofs.Ytoiondajpccobaa.P Go.Proofs.YtoiondajpccobaaW.PrintWords Go.Proofs.Ytoiondajpccobaa.M
set_option linter.unusedVariables false
set_option linter.unusedSimpArgs false

theorem law_of (a : ByteArray) (b : ByteArray) (r0 : ByteArray) (r1 : Bool) (hb_a : ¬ ((a.size : Int) > 1048576)) (hb_b : ¬ ((b.size : Int) > 1048576)) (hs : Ev (fun k => spec_JoinFences.f k a b) (r0, r1)) (hi : impl_JoinFences.f a b = some (r0, r1)) : Ev (fun k => laws_FnExactJoinFences.f k a b) true := by
  unfold laws_FnExactJoinFences.f
  repeat (first
    | exact Ev.now _
    | (with_reducible refine Ev.bind hs ?_)
    | simp only [if_true, if_false, bne_self_eq_false, Bool.false_eq_true, Option.bind_some, hi, hb_a, hb_b]
    )

theorem bytesOf_append (a b : ByteArray) : bytesOf (a ++ b) = bytesOf a ++ bytesOf b := by
  unfold bytesOf
  rw [ByteArray.data_append, Array.toList_append, List.map_append]
theorem FnExactJoinFences : laws_FnExactJoinFences.Pure := by
  intro a b _ _
  refine Ev.rounds ?_
  by_cases ha : (a.size : Int) > 1048576
  · unfold laws_FnExactJoinFences.f
    simp only [ha, if_true]; exact Ev.now _
  by_cases hb : (b.size : Int) > 1048576
  · unfold laws_FnExactJoinFences.f
    simp only [ha, hb, if_true, if_false]; exact Ev.now _
  have h1 := stGood_ev a
  have h2 := isFence_f a
  have h3 := stGood_ev b
  have h4 := isFence_f b
  cases ka : fenceB a
  · rw [ka] at h1 h2
    refine law_of a b ⟨#[]⟩ false ha hb ?_ ?_
    · unfold spec_JoinFences.f
      exact Ev.bind h1 (Ev.now _)
    · unfold impl_JoinFences.f
      rw [h2]; rfl
  cases kb : fenceB b
  · rw [ka] at h1 h2
    rw [kb] at h3 h4
    refine law_of a b ⟨#[]⟩ false ha hb ?_ ?_
    · unfold spec_JoinFences.f
      refine Ev.bind h1 ?_
      simp only [if_true]
      exact Ev.bind h3 (Ev.now _)
    · unfold impl_JoinFences.f
      rw [h2, h4]; rfl
  have sa := fence_size ka
  have sb := fence_size kb
  have hsum : a.size + b.size ≤ 9223372036854775807 := by omega
  have hw : wrap64 ((a.size : Int) + (b.size : Int)) = (a.size : Int) + (b.size : Int) := wrap_id (by omega) (by omega)
  have hall : (bytesOf (a ++ b)).all boardB = true := by
    rw [bytesOf_append, List.all_append]
    unfold fenceB at ka kb
    rw [Bool.and_eq_true] at ka kb
    rw [ka.2, kb.2]; rfl
  have hf : fenceB (a ++ b) = decide ((a.size : Int) + (b.size : Int) ≤ 20) := by
    unfold fenceB inn
    rw [hall, ByteArray.size_append, Bool.and_true]
    by_cases h : (a.size : Int) + (b.size : Int) ≤ 20
    · simp; omega
    · simp; omega
  have h5 := isFence_f (a ++ b)
  rw [hf] at h5
  rw [ka] at h1 h2
  rw [kb] at h3 h4
  by_cases h : (a.size : Int) + (b.size : Int) ≤ 20
  · have hn : ¬ ((a.size : Int) + (b.size : Int) > 20) := by omega
    refine law_of a b (a ++ b) true ha hb ?_ ?_
    · unfold spec_JoinFences.f
      refine Ev.bind h1 ?_
      simp only [if_true]
      refine Ev.bind h3 ?_
      simp only [if_true, hw, hn, if_false, hsum]
      exact Ev.now _
    · unfold impl_JoinFences.f
      rw [h2, h4]
      simp only [Option.bind_some, if_true, hsum, h5, h, decide_true]
  · have hn : (a.size : Int) + (b.size : Int) > 20 := by omega
    refine law_of a b ⟨#[]⟩ false ha hb ?_ ?_
    · unfold spec_JoinFences.f
      refine Ev.bind h1 ?_
      simp only [if_true]
      refine Ev.bind h3 ?_
      simp only [if_true, hw, hn]
      exact Ev.now _
    · unfold impl_JoinFences.f
      rw [h2, h4]
      simp only [Option.bind_some, if_true, hsum, h5, h, decide_false, Bool.false_eq_true, if_false]

end Go.Proofs.Ytoiondajpccobaa.Pure
