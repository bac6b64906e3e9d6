/- For all numbers CountTurned gives the reference's answer: the plain part. The numbers that are let in are ninety pairs: each is reckoned by the kernel. -/
import Derived.Test.YtnkpdcidlnjnpaaPx1
import Derived.Test.YtnkpdcidlnjnpaaPx12
import Derived.Test.YtnkpdcidlnjnpaaPx13
import Derived.Test.YtnkpdcidlnjnpaaPx2
import Derived.Test.YtnkpdcidlnjnpaaPx3
import Derived.Test.YtnkpdcidlnjnpaaPx9
import Derived.Test.YtnkpdcidlnjnpaaMBase
namespace Go.Proofs.Ytnkpdcidlnjnpaa.Pure
open Go.RowKit Go.Proofs.Ytnkpdcidlnjnpaa.P Go.Proofs.YtnkpdcidlnjnpaaW.PrintWords Go.Proofs.Ytnkpdcidlnjnpaa.M
set_option linter.unusedVariables false
set_option linter.unusedSimpArgs false

set_option maxRecDepth 100000 in
theorem at3 : ∀ t : Fin 5, laws_FnExactCountTurned.f 1000 3 ((t.val : Int) + 1) = some true := by decide +kernel
set_option maxRecDepth 100000 in
theorem at4 : ∀ t : Fin 5, laws_FnExactCountTurned.f 1000 4 ((t.val : Int) + 1) = some true := by decide +kernel
set_option maxRecDepth 100000 in
theorem at5 : ∀ t : Fin 5, laws_FnExactCountTurned.f 1000 5 ((t.val : Int) + 1) = some true := by decide +kernel
set_option maxRecDepth 100000 in
theorem at6 : ∀ t : Fin 5, laws_FnExactCountTurned.f 1000 6 ((t.val : Int) + 1) = some true := by decide +kernel
set_option maxRecDepth 100000 in
theorem at7 : ∀ t : Fin 5, laws_FnExactCountTurned.f 1000 7 ((t.val : Int) + 1) = some true := by decide +kernel
set_option maxRecDepth 100000 in
theorem at8 : ∀ t : Fin 5, laws_FnExactCountTurned.f 1000 8 ((t.val : Int) + 1) = some true := by decide +kernel
set_option maxRecDepth 100000 in
theorem at9 : ∀ t : Fin 5, laws_FnExactCountTurned.f 1000 9 ((t.val : Int) + 1) = some true := by decide +kernel
set_option maxRecDepth 100000 in
theorem at10 : ∀ t : Fin 5, laws_FnExactCountTurned.f 1000 10 ((t.val : Int) + 1) = some true := by decide +kernel
set_option maxRecDepth 100000 in
theorem at11 : ∀ t : Fin 5, laws_FnExactCountTurned.f 1000 11 ((t.val : Int) + 1) = some true := by decide +kernel
set_option maxRecDepth 100000 in
theorem at12 : ∀ t : Fin 5, laws_FnExactCountTurned.f 1000 12 ((t.val : Int) + 1) = some true := by decide +kernel
set_option maxRecDepth 100000 in
theorem at13 : ∀ t : Fin 5, laws_FnExactCountTurned.f 1000 13 ((t.val : Int) + 1) = some true := by decide +kernel
set_option maxRecDepth 100000 in
theorem at14 : ∀ t : Fin 5, laws_FnExactCountTurned.f 1000 14 ((t.val : Int) + 1) = some true := by decide +kernel
set_option maxRecDepth 100000 in
theorem at15 : ∀ t : Fin 5, laws_FnExactCountTurned.f 1000 15 ((t.val : Int) + 1) = some true := by decide +kernel
set_option maxRecDepth 100000 in
theorem at16 : ∀ t : Fin 5, laws_FnExactCountTurned.f 1000 16 ((t.val : Int) + 1) = some true := by decide +kernel
set_option maxRecDepth 100000 in
theorem at17 : ∀ t : Fin 5, laws_FnExactCountTurned.f 1000 17 ((t.val : Int) + 1) = some true := by decide +kernel
set_option maxRecDepth 100000 in
theorem at18 : ∀ t : Fin 5, laws_FnExactCountTurned.f 1000 18 ((t.val : Int) + 1) = some true := by decide +kernel
set_option maxRecDepth 100000 in
theorem at19 : ∀ t : Fin 5, laws_FnExactCountTurned.f 1000 19 ((t.val : Int) + 1) = some true := by decide +kernel
set_option maxRecDepth 100000 in
theorem at20 : ∀ t : Fin 5, laws_FnExactCountTurned.f 1000 20 ((t.val : Int) + 1) = some true := by decide +kernel
theorem asked (a b : Int) : spec_coAsked.f a b true = some (decide (3 ≤ a) && decide (a ≤ 20) && (decide (1 ≤ b) && decide (b ≤ 5))) := by
  unfold spec_coAsked.f spec_coSize.f spec_coTints.f spec_l1In.f
  by_cases h1 : a ≥ 1 <;> by_cases h2 : a ≤ 20 <;> by_cases h3 : a ≥ 3 <;> by_cases h4 : b ≥ 1 <;> by_cases h5 : b ≤ 5 <;> simp [h1, h2, h3, h4, h5] <;> omega
theorem tinted (a b : Int) : impl_isTinted.f a b true = some (decide (3 ≤ a) && decide (a ≤ 20) && (decide (1 ≤ b) && decide (b ≤ 5))) := by
  unfold impl_isTinted.f impl_isRing.f impl_isTints.f impl_within.f
  by_cases h1 : a ≥ 1 <;> by_cases h2 : a ≤ 20 <;> by_cases h3 : a ≥ 3 <;> by_cases h4 : b ≥ 1 <;> by_cases h5 : b ≤ 5 <;> simp [h1, h2, h3, h4, h5] <;> omega
theorem FnExactCountTurned : laws_FnExactCountTurned.Pure := by
  intro a b _ _
  cases hb : (decide (3 ≤ a) && decide (a ≤ 20) && (decide (1 ≤ b) && decide (b ≤ 5)))
  · refine ⟨0, ?_⟩
    unfold laws_FnExactCountTurned.f spec_CountTurned.f impl_CountTurned.f
    rw [asked, tinted, hb]
    rfl
  · simp only [Bool.and_eq_true, decide_eq_true_eq] at hb
    refine ⟨1000, ?_⟩
    have ht : ∃ t : Fin 5, b = (t.val : Int) + 1 := ⟨⟨(b - 1).toNat, by omega⟩, by simp; omega⟩
    obtain ⟨t, rfl⟩ := ht
    by_cases h3 : a = 3
    · subst h3; exact at3 t
    by_cases h4 : a = 4
    · subst h4; exact at4 t
    by_cases h5 : a = 5
    · subst h5; exact at5 t
    by_cases h6 : a = 6
    · subst h6; exact at6 t
    by_cases h7 : a = 7
    · subst h7; exact at7 t
    by_cases h8 : a = 8
    · subst h8; exact at8 t
    by_cases h9 : a = 9
    · subst h9; exact at9 t
    by_cases h10 : a = 10
    · subst h10; exact at10 t
    by_cases h11 : a = 11
    · subst h11; exact at11 t
    by_cases h12 : a = 12
    · subst h12; exact at12 t
    by_cases h13 : a = 13
    · subst h13; exact at13 t
    by_cases h14 : a = 14
    · subst h14; exact at14 t
    by_cases h15 : a = 15
    · subst h15; exact at15 t
    by_cases h16 : a = 16
    · subst h16; exact at16 t
    by_cases h17 : a = 17
    · subst h17; exact at17 t
    by_cases h18 : a = 18
    · subst h18; exact at18 t
    by_cases h19 : a = 19
    · subst h19; exact at19 t
    by_cases h20 : a = 20
    · subst h20; exact at20 t
    omega

end Go.Proofs.Ytnkpdcidlnjnpaa.Pure
