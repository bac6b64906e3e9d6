/- Whether a fence is proper: the reference and the program go the same way. -/
import Derived.Test.YtnkpdcidlnjnpaaPx5
import Derived.Test.YtnkpdcidlnjnpaaPx6
import Derived.Test.YtnkpdcidlnjnpaaMBase
namespace Go.Proofs.Ytnkpdcidlnjnpaa.M
open Go.RowKit Go.Proofs.Ytnkpdcidlnjnpaa.P Go.Proofs.YtnkpdcidlnjnpaaW.PrintWords Go.Proofs.Ytnkpdcidlnjnpaa.M
set_option linter.unusedVariables false
set_option linter.unusedSimpArgs false

theorem proper_same (s : ByteArray) (a : Bool) : ∀ (k : Nat) (i : Int), impl_isProper.l0 k s a (s.size : Int) i = spec_coProper.l0 k s a i := by
  intro k
  induction k with
  | zero => intro i; rfl
  | succ k ih =>
    intro i
    simp only [impl_isProper.l0, spec_coProper.l0, ih]
    by_cases h : i < (s.size : Int)
    · simp only [h, if_true]
    · simp only [h, if_false]
theorem proper_f (k : Nat) (s : ByteArray) (a : Bool) : impl_isProper.f k s a = spec_coProper.f k s a := proper_same s a k 0
theorem proper_l0 (s : ByteArray) (a : Bool) (h0 : 0 < s.size) (hs : s.size ≤ 1000) (d : Nat) : ∀ i : Nat, i ≤ s.size → s.size - i = d → ∃ r, Ev (fun k => spec_coProper.l0 k s a (i : Int)) r := by
  induction d with
  | zero =>
    intro i hi hd
    have h1 : ¬ ((i : Int) < (s.size : Int)) := by omega
    have h2 : 0 < (s.size : Int) := by omega
    have h3 : wrap64 ((s.size : Int) - 1) = (s.size : Int) - 1 := wrap_id (by omega) (by omega)
    have h4 : 0 ≤ (s.size : Int) - 1 := by omega
    have h5 : (s.size : Int) - 1 < (s.size : Int) := by omega
    cases a
    · exact ⟨_, Ev.step (f := fun _ => some true) (fun k => by simp only [spec_coProper.l0, h1, if_false]; rfl) (Ev.now _)⟩
    · exact ⟨_, Ev.step (f := fun _ => some (bt s 0 != bt s ((s.size : Int) - 1))) (fun k => by simp only [spec_coProper.l0, h1, h2, h3, h4, h5, if_false, if_true]) (Ev.now _)⟩
  | succ d ih =>
    intro i hi hd
    have h1 : (i : Int) < (s.size : Int) := by omega
    have h2 : 0 ≤ (i : Int) := by omega
    have hw : wrap64 ((i : Int) + 1) = ((i + 1 : Nat) : Int) := by rw [wrap_id (by omega) (by omega)]; rfl
    obtain ⟨r, hr⟩ := ih (i + 1) (by omega) (by omega)
    by_cases c1 : bt s (i : Int) = 46
    · exact ⟨_, Ev.step (f := fun _ => some false) (fun k => by simp only [spec_coProper.l0, h1, h2, c1, if_true]) (Ev.now _)⟩
    · by_cases c2 : (i : Int) > 0
      · have h3 : wrap64 ((i : Int) - 1) = (i : Int) - 1 := wrap_id (by omega) (by omega)
        have h4 : 0 ≤ (i : Int) - 1 := by omega
        have h5 : (i : Int) - 1 < (s.size : Int) := by omega
        by_cases c3 : bt s (i : Int) = bt s ((i : Int) - 1)
        · exact ⟨_, Ev.step (f := fun _ => some false) (fun k => by simp only [spec_coProper.l0, h1, h2, h3, h4, h5, c1, c2, if_true, if_false]; rw [if_pos c3]) (Ev.now _)⟩
        · exact ⟨r, Ev.step (fun k => by simp only [spec_coProper.l0, h1, h2, h3, h4, h5, c1, c2, c3, hw, if_true, if_false]) hr⟩
      · exact ⟨r, Ev.step (fun k => by simp only [spec_coProper.l0, h1, h2, c1, c2, hw, if_true, if_false]) hr⟩
theorem proper_ev (s : ByteArray) (a : Bool) (h0 : 0 < s.size) (hs : s.size ≤ 1000) : ∃ r, Ev (fun k => spec_coProper.f k s a) r ∧ Ev (fun k => impl_isProper.f k s a) r := by
  obtain ⟨r, h⟩ := proper_l0 s a h0 hs _ 0 (Nat.zero_le _) rfl
  refine ⟨r, h, ?_⟩
  simp only [proper_f]
  exact h

end Go.Proofs.Ytnkpdcidlnjnpaa.M
