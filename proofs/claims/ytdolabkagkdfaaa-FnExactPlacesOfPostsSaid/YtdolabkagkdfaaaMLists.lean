/- Lists that loops build by appending: the lists of places. -/
import Derived.Test.YtdolabkagkdfaaaPx5
import Derived.Test.YtdolabkagkdfaaaPx6
import Derived.Test.YtdolabkagkdfaaaMBase
import Derived.Test.YtdolabkagkdfaaaMInts
namespace Go.Proofs.Ytdolabkagkdfaaa.M
open Go.RowKit Go.Proofs.Ytdolabkagkdfaaa.P Go.Proofs.YtdolabkagkdfaaaW.PrintWords Go.Proofs.Ytdolabkagkdfaaa.M
set_option linter.unusedVariables false
set_option linter.unusedSimpArgs false

/-- A law over a list and a Bool, both told alike by the two sides, holds at what the marks come to. -/
theorem placesOfPosts_l0 (long gap : Int) (h1 : 1 ≤ long ∧ long ≤ 500) (h2 : 1 ≤ gap ∧ gap ≤ 500) (d : Nat) : ∀ (xs : List Int) (i : Int), 0 ≤ i → (xs.length : Int) ≤ i → i ≤ 1000 → (1000 - i).toNat ≤ d →
    ∃ out : List Int, out.length ≤ 2000 ∧ Ev (fun k => spec_PlacesOfPosts.l0 k long gap xs i) (out, true) ∧ Ev (fun k => impl_PlacesOfPosts.l0 k long gap xs i) (out, true) := by
  induction d with
  | zero =>
    intro xs i h0 hx hi hd
    refine ⟨xs ++ [long], by simp; omega, Ev.step (f := fun _ => some _) (fun k => ?_) (Ev.now _), Ev.step (f := fun _ => some _) (fun k => ?_) (Ev.now _)⟩
    · simp only [spec_PlacesOfPosts.l0]
      rw [if_neg (by omega), if_pos (by omega)]
    · simp only [impl_PlacesOfPosts.l0]
      rw [if_neg (by omega), if_pos (by omega)]
  | succ d ih =>
    intro xs i h0 hx hi hd
    by_cases hlt : i < long
    · obtain ⟨out, ho, e1, e2⟩ := ih (xs ++ [i]) (i + gap) (by omega) (by simp; omega) (by omega) (by omega)
      refine ⟨out, ho, Ev.step (fun k => ?_) e1, Ev.step (fun k => ?_) e2⟩
      · simp only [spec_PlacesOfPosts.l0]
        rw [if_pos hlt, if_pos (by omega), wrap_id (by omega) (by omega)]
      · simp only [impl_PlacesOfPosts.l0]
        rw [if_pos hlt, if_pos (by omega), wrap_id (by omega) (by omega)]
    · refine ⟨xs ++ [long], by simp; omega, Ev.step (f := fun _ => some _) (fun k => ?_) (Ev.now _), Ev.step (f := fun _ => some _) (fun k => ?_) (Ev.now _)⟩
      · simp only [spec_PlacesOfPosts.l0]
        rw [if_neg hlt, if_pos (by omega)]
      · simp only [impl_PlacesOfPosts.l0]
        rw [if_neg hlt, if_pos (by omega)]

end Go.Proofs.Ytdolabkagkdfaaa.M
