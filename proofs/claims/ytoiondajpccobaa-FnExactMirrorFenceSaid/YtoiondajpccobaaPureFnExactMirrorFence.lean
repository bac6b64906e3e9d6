/- For all texts MirrorFence gives the reference's answer: the plain part. -/
import Derived.Test.YtoiondajpccobaaPx3
import Derived.Test.YtoiondajpccobaaPx4
import Derived.Test.YtoiondajpccobaaPx5
import Derived.Test.YtoiondajpccobaaMBase
import Derived.Test.YtoiondajpccobaaMFence
namespace Go.Proofs.Ytoiondajpccobaa.Pure
open Go.RowKit Go.Proofs.Ytoiondajpccobaa.P Go.Proofs.YtoiondajpccobaaW.PrintWords Go.Proofs.Ytoiondajpccobaa.M
set_option linter.unusedVariables false
set_option linter.unusedSimpArgs false

theorem law_of (a : ByteArray) (r0 : ByteArray) (r1 : Bool) (hb_a : ¬ ((a.size : Int) > 1048576)) (hs : Ev (fun k => spec_MirrorFence.f k a) (r0, r1)) (hi : impl_MirrorFence.f a = some (r0, r1)) : Ev (fun k => laws_FnExactMirrorFence.f k a) true := by
  unfold laws_FnExactMirrorFence.f
  repeat (first
    | exact Ev.now _
    | (with_reducible refine Ev.bind hs ?_)
    | simp only [if_true, if_false, bne_self_eq_false, Bool.false_eq_true, Option.bind_some, hi, hb_a]
    )

theorem ext_one (s : ByteArray) (i : Nat) (h : i < s.size) : s.extract i (i + 1) = ⟨#[s[i]]⟩ := by
  have hd : i < s.data.size := h
  apply ByteArray.ext
  rw [ByteArray.data_extract]
  apply Array.ext
  · rw [Array.size_extract]
    show min (i + 1) s.data.size - i = 1
    omega
  · intro j h1 h2
    have hj : j = 0 := by
      have : j < 1 := h2
      omega
    subst hj
    rw [Array.getElem_extract]
    rfl
theorem loop (s : ByteArray) (hs : s.size ≤ 20) : ∀ (m : Nat) (out : ByteArray), m ≤ s.size → out.data.toList = (s.data.toList.drop m).reverse → Ev (fun k => spec_MirrorFence.l0 k s out ((m : Int) - 1)) (⟨s.data.toList.reverse.toArray⟩, true) := by
  have hdl : s.data.toList.length = s.size := by rw [Array.length_toList]; rfl
  intro m
  induction m with
  | zero =>
    intro out _ ho
    have c1 : ¬ (((0 : Nat) : Int) - 1 ≥ 0) := by omega
    have he : out = ⟨s.data.toList.reverse.toArray⟩ := by
      rw [List.drop_zero] at ho
      apply ByteArray.ext
      apply Array.ext'
      rw [ho]
    refine Ev.step (f := fun _ => some _) (fun k => ?_) (evTo (by rw [he]) (Ev.now (out, true)))
    simp only [spec_MirrorFence.l0]
    rw [if_neg c1]
  | succ m ih =>
    intro out hm ho
    have hlt : m < s.size := by omega
    have hl : m < s.data.toList.length := by omega
    have hsz : out.size ≤ 20 := by
      have h1 : out.size = out.data.toList.length := by rw [Array.length_toList]; rfl
      rw [h1, ho, List.length_reverse, List.length_drop]
      omega
    have e0 : (((m + 1 : Nat) : Int) - 1) = (m : Int) := by omega
    have c1 : (m : Int) ≥ 0 := by omega
    have c3 : (m : Int) ≤ ((m + 1 : Nat) : Int) := by omega
    have c4 : ((m + 1 : Nat) : Int) ≤ (s.size : Int) := by omega
    have hone := ext_one s m hlt
    have hsz2 : out.size + (⟨#[s[m]]⟩ : ByteArray).size ≤ 9223372036854775807 := Nat.le_trans (Nat.add_le_add_right hsz 1) (by decide)
    have ho2 : (out ++ (⟨#[s[m]]⟩ : ByteArray)).data.toList = (s.data.toList.drop m).reverse := by
      rw [ByteArray.data_append, Array.toList_append, ho, List.drop_eq_getElem_cons hl, List.reverse_cons, Array.getElem_toList]
      rfl
    have hm2 : m ≤ s.size := by omega
    have w1 : wrap64 ((m : Int) + 1) = ((m + 1 : Nat) : Int) := (congrArg wrap64 (show (m : Int) + 1 = ((m + 1 : Nat) : Int) from rfl)).trans (wrap_id (by omega) (by omega))
    have w2 : wrap64 ((m : Int) - 1) = (m : Int) - 1 := wrap_id (by omega) (by omega)
    rw [e0]
    refine Ev.step (fun k => ?_) (ih (out ++ ⟨#[s[m]]⟩) hm2 ho2)
    simp only [spec_MirrorFence.l0]
    rw [w1, w2, Int.toNat_natCast, Int.toNat_natCast, hone, if_pos c1, if_pos c1, if_pos c3, if_pos c4, if_pos hsz2]
theorem FnExactMirrorFence : laws_FnExactMirrorFence.Pure := by
  intro a _
  refine Ev.rounds ?_
  by_cases ha : (a.size : Int) > 1048576
  · unfold laws_FnExactMirrorFence.f
    simp only [ha, if_true]; exact Ev.now _
  have h1 := stGood_ev a
  have h2 := isFence_f a
  cases ka : fenceB a
  · rw [ka] at h1 h2
    refine law_of a ⟨#[]⟩ false ha ?_ ?_
    · unfold spec_MirrorFence.f
      exact Ev.bind h1 (Ev.now _)
    · unfold impl_MirrorFence.f
      rw [h2]; rfl
  · rw [ka] at h1 h2
    have sa := fence_size ka
    have hs : a.size ≤ 20 := by omega
    have hs2 : a.size ≤ 1000 := by omega
    have hw : wrap64 ((a.size : Int) - 1) = (a.size : Int) - 1 := wrap_id (by omega) (by omega)
    have hl := loop a hs a.size ⟨#[]⟩ (Nat.le_refl _) (by rw [List.drop_of_length_le (by rw [Array.length_toList]; exact Nat.le_refl _)]; rfl)
    refine law_of a ⟨a.data.toList.reverse.toArray⟩ true ha ?_ ?_
    · unfold spec_MirrorFence.f
      refine Ev.bind h1 ?_
      simp only [if_true]
      rw [hw]
      exact hl
    · unfold impl_MirrorFence.f
      rw [h2]
      simp only [Option.bind_some, if_true]
      unfold impl_mirrored.f
      rw [if_pos hs2]
      rfl

end Go.Proofs.Ytoiondajpccobaa.Pure
