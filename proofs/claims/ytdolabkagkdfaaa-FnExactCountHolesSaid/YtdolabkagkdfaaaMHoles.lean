/- The places that posts of two fences share, and those of either one. -/
import Derived.Test.YtdolabkagkdfaaaPx11
import Derived.Test.YtdolabkagkdfaaaPx12
import Derived.Test.YtdolabkagkdfaaaMPosts
import Derived.Test.YtdolabkagkdfaaaMBase
import Derived.Test.YtdolabkagkdfaaaMGcd
namespace Go.Proofs.Ytdolabkagkdfaaa.M
open Go.RowKit Go.Proofs.Ytdolabkagkdfaaa.P Go.Proofs.YtdolabkagkdfaaaW.PrintWords Go.Proofs.Ytdolabkagkdfaaa.M
set_option linter.unusedVariables false
set_option linter.unusedSimpArgs false

def holes (l n : Nat) : List Int := ((List.range n).filter fun p => decide (l ∣ p)).map fun p : Nat => (p : Int)
theorem holes_succ (l n : Nat) : holes l (n + 1) = if l ∣ n then holes l n ++ [(n : Int)] else holes l n := by
  unfold holes
  rw [List.range_succ, List.filter_append, List.map_append]
  by_cases h : l ∣ n <;> simp [h]
theorem holes_length (l n : Nat) : (holes l n).length ≤ n := by
  unfold holes
  rw [List.length_map]
  exact Nat.le_trans (List.length_filter_le _ _) (by simp)
theorem holes_count (l n : Nat) (hl : 0 < l) : (holes l (n + 1)).length = n / l + 1 := by
  induction n with
  | zero => rw [holes_succ, if_pos (Nat.dvd_zero _)]; simp [holes]
  | succ n ih =>
    rw [holes_succ, Nat.succ_div]
    by_cases h : l ∣ n + 1
    · rw [if_pos h, if_pos h, List.length_append, ih]; rfl
    · rw [if_neg h, if_neg h, ih]
theorem holes_run (l j : Nat) : ∀ m, 0 < m → m ≤ l → holes l (j * l + m) = holes l (j * l) ++ [((j * l : Nat) : Int)] := by
  intro m
  induction m with
  | zero => intro h; omega
  | succ m ih =>
    intro _ hm
    by_cases h0 : m = 0
    · subst h0
      rw [holes_succ, if_pos (Nat.dvd_mul_left l j)]
    · rw [← Nat.add_assoc, holes_succ, if_neg, ih (by omega) (by omega)]
      intro hd
      have : l ∣ m := (Nat.dvd_add_right (Nat.dvd_mul_left l j)).1 hd
      exact absurd (Nat.le_of_dvd (by omega) this) (by omega)
theorem impl_holes (long l : Nat) (hl : 0 < l) (hl2 : l ≤ 250000) (hlong : long ≤ 500) (d : Nat) : ∀ j : Nat, j * l ≤ long + l → long + l - j * l = d →
    Ev (fun k => impl_SharedHoles.l0 k (long : Int) (holes l (min (j * l) (long + 1))) (l : Int) ((j * l : Nat) : Int)) (holes l (long + 1), true) := by
  induction d using Nat.strongRecOn with
  | _ d ih =>
    intro j hj hd
    by_cases h : j * l ≤ long
    · have hs : (j + 1) * l = j * l + l := Nat.succ_mul j l
      have e := ih (long + l - (j + 1) * l) (by rw [hs]; omega) (j + 1) (by rw [hs]; omega) rfl
      refine Ev.step (fun k => ?_) e
      simp only [impl_SharedHoles.l0]
      have hlen := holes_length l (min (j * l) (long + 1))
      rw [if_pos (by omega), if_pos (by omega), wrap_id (by omega) (by omega)]
      have e1 : min (j * l) (long + 1) = j * l := by omega
      have e2 : holes l (min ((j + 1) * l) (long + 1)) = holes l (j * l) ++ [((j * l : Nat) : Int)] := by
        have e3 : min ((j + 1) * l) (long + 1) = j * l + (min ((j + 1) * l) (long + 1) - j * l) := by rw [hs]; omega
        rw [e3]
        exact holes_run l j _ (by rw [hs]; omega) (by rw [hs]; omega)
      rw [e1, e2, hs]
      rfl
    · refine Ev.step (f := fun _ => some _) (fun k => ?_) (Ev.now _)
      simp only [impl_SharedHoles.l0]
      rw [if_neg (by omega), show min (j * l) (long + 1) = long + 1 from by omega]
theorem dvd_tmod (a p : Nat) : (Int.tmod (p : Int) (a : Int) = 0) ↔ a ∣ p := by
  rw [tmod_nat]
  constructor
  · intro h; exact Nat.dvd_of_mod_eq_zero (by omega)
  · intro h; rw [Nat.mod_eq_zero_of_dvd h]; rfl
theorem lcm_dvd_iff (a b p : Nat) : Nat.lcm a b ∣ p ↔ a ∣ p ∧ b ∣ p := by
  constructor
  · intro h; exact ⟨Nat.dvd_trans (Nat.dvd_lcm_left a b) h, Nat.dvd_trans (Nat.dvd_lcm_right a b) h⟩
  · intro ⟨h1, h2⟩; exact Nat.lcm_dvd h1 h2
theorem spec_both (long a b : Nat) (ha : 0 < a) (hb : 0 < b) (hlong : long ≤ 500) (d : Nat) : ∀ i : Nat, i ≤ long + 1 → long + 1 - i = d →
    Ev (fun k => spec_poHoles.l0 k (long : Int) (a : Int) (b : Int) true (holes (Nat.lcm a b) i) (i : Int)) (holes (Nat.lcm a b) (long + 1)) := by
  induction d with
  | zero =>
    intro i hi hd
    have e : i = long + 1 := by omega
    subst e
    refine Ev.step (f := fun _ => some _) (fun k => ?_) (Ev.now _)
    simp only [spec_poHoles.l0]
    rw [if_neg (by omega)]
  | succ d ih =>
    intro i hi hd
    refine Ev.step (fun k => ?_) (ih (i + 1) (by omega) (by omega))
    simp only [spec_poHoles.l0]
    have hlen := holes_length (Nat.lcm a b) i
    rw [if_pos (by omega), if_neg (by omega), if_neg (by omega), wrap_id (by omega) (by omega), holes_succ]
    have := lcm_dvd_iff a b i
    by_cases h1 : a ∣ i
    · by_cases h2 : b ∣ i
      · rw [if_pos ((dvd_tmod a i).2 h1), if_pos ((dvd_tmod b i).2 h2), if_pos (by omega), if_pos (this.2 ⟨h1, h2⟩)]; rfl
      · rw [if_pos ((dvd_tmod a i).2 h1), if_neg (fun h => h2 ((dvd_tmod b i).1 h)), if_pos trivial, if_neg (fun h => h2 (this.1 h).2)]; rfl
    · rw [if_neg (fun h => h1 ((dvd_tmod a i).1 h)), if_pos trivial, if_neg (fun h => h1 (this.1 h).1)]; rfl
/-- The places of either one. -/
def either (a b n : Nat) : List Int := ((List.range n).filter fun p => decide (a ∣ p) || decide (b ∣ p)).map fun p : Nat => (p : Int)
theorem either_succ (a b n : Nat) : either a b (n + 1) = if a ∣ n ∨ b ∣ n then either a b n ++ [(n : Int)] else either a b n := by
  unfold either
  rw [List.range_succ, List.filter_append, List.map_append]
  by_cases h : a ∣ n <;> by_cases h' : b ∣ n <;> simp [h, h']
theorem either_length (a b n : Nat) : (either a b n).length ≤ n := by
  unfold either
  rw [List.length_map]
  exact Nat.le_trans (List.length_filter_le _ _) (by simp)
theorem either_count (a b n : Nat) : (either a b n).length + (holes (Nat.lcm a b) n).length = (holes a n).length + (holes b n).length := by
  induction n with
  | zero => simp [either, holes]
  | succ n ih =>
    rw [either_succ, holes_succ, holes_succ, holes_succ]
    have := lcm_dvd_iff a b n
    by_cases h1 : a ∣ n <;> by_cases h2 : b ∣ n
    · rw [if_pos (.inl h1), if_pos (this.2 ⟨h1, h2⟩), if_pos h1, if_pos h2]; simp; omega
    · rw [if_pos (.inl h1), if_neg (fun h => h2 (this.1 h).2), if_pos h1, if_neg h2]; simp; omega
    · rw [if_pos (.inr h2), if_neg (fun h => h1 (this.1 h).1), if_neg h1, if_pos h2]; simp; omega
    · rw [if_neg (by simp [h1, h2]), if_neg (fun h => h1 (this.1 h).1), if_neg h1, if_neg h2]; omega
theorem spec_either (long a b : Nat) (ha : 0 < a) (hb : 0 < b) (hlong : long ≤ 500) (d : Nat) : ∀ i : Nat, i ≤ long + 1 → long + 1 - i = d →
    Ev (fun k => spec_poHoles.l0 k (long : Int) (a : Int) (b : Int) false (either a b i) (i : Int)) (either a b (long + 1)) := by
  induction d with
  | zero =>
    intro i hi hd
    have e : i = long + 1 := by omega
    subst e
    refine Ev.step (f := fun _ => some _) (fun k => ?_) (Ev.now _)
    simp only [spec_poHoles.l0]
    rw [if_neg (by omega)]
  | succ d ih =>
    intro i hi hd
    refine Ev.step (fun k => ?_) (ih (i + 1) (by omega) (by omega))
    simp only [spec_poHoles.l0]
    have hlen := either_length a b i
    rw [if_pos (by omega), if_neg (by omega), if_neg (by omega), wrap_id (by omega) (by omega), either_succ]
    by_cases h1 : a ∣ i
    · by_cases h2 : b ∣ i
      · rw [if_pos ((dvd_tmod a i).2 h1), if_pos ((dvd_tmod b i).2 h2), if_pos (by omega), if_pos (.inl h1)]; rfl
      · rw [if_pos ((dvd_tmod a i).2 h1), if_neg (fun h => h2 ((dvd_tmod b i).1 h)), if_neg (by decide), if_pos (by omega), if_pos (.inl h1)]; rfl
    · rw [if_neg (fun h => h1 ((dvd_tmod a i).1 h)), if_neg (by decide)]
      by_cases h2 : b ∣ i
      · rw [if_pos ((dvd_tmod b i).2 h2), if_pos (by omega), if_pos (.inr h2)]; rfl
      · rw [if_neg (fun h => h2 ((dvd_tmod b i).1 h)), if_neg (by simp [h1, h2])]; rfl
theorem shared_yes (long a b : Nat) (h : 1 ≤ long ∧ long ≤ 500) (ha : 1 ≤ a ∧ a ≤ 500) (hb : 1 ≤ b ∧ b ≤ 500) : Ev (fun k => impl_SharedHoles.f k (long : Int) (a : Int) (b : Int)) (holes (Nat.lcm a b) (long + 1), true) := by
  unfold impl_SharedHoles.f
  simp only [areLong_f, List.all_cons, List.all_nil, Bool.and_true, Option.bind_some, (long_iff _).2 (show 1 ≤ (long : Int) ∧ (long : Int) ≤ 500 by omega), (long_iff _).2 (show 1 ≤ (a : Int) ∧ (a : Int) ≤ 500 by omega), (long_iff _).2 (show 1 ≤ (b : Int) ∧ (b : Int) ≤ 500 by omega), if_true]
  have hg : 0 < Nat.gcd a b := Nat.gcd_pos_of_pos_left b (by omega)
  have hl0 : 0 < Nat.lcm a b := Nat.lcm_pos (by omega) (by omega)
  have hl : a / Nat.gcd a b * b = Nat.lcm a b := by
    unfold Nat.lcm
    rw [Nat.mul_comm a b, Nat.mul_div_assoc b (Nat.gcd_dvd_left a b), Nat.mul_comm]
  have hle : Nat.lcm a b ≤ 250000 := by
    have h1 : Nat.lcm a b ≤ a * b := Nat.le_of_dvd (Nat.mul_pos (by omega) (by omega)) (Nat.lcm_dvd (Nat.dvd_mul_right a b) (Nat.dvd_mul_left b a))
    have h2 : a * b ≤ 500 * 500 := Nat.mul_le_mul ha.2 hb.2
    omega
  refine Ev.bind (divisor_ev (a : Int) (b : Int) (by omega) (by omega)) ?_
  have hz : ¬ ((Int.gcd (a : Int) (b : Int) : Int) = 0) := by
    show ¬ ((Nat.gcd a b : Int) = 0)
    omega
  simp only [hz, if_false]
  have hd : Int.tdiv (a : Int) (Int.gcd (a : Int) (b : Int) : Int) = ((a / Nat.gcd a b : Nat) : Int) := by
    rw [Int.tdiv_eq_ediv_of_nonneg (by omega)]; rfl
  have hda : a / Nat.gcd a b ≤ a := Nat.div_le_self _ _
  generalize a / Nat.gcd a b = q at hd hda hl
  have hw : wrap64 (wrap64 (Int.tdiv (a : Int) (Int.gcd (a : Int) (b : Int) : Int)) * (b : Int)) = ((Nat.lcm a b : Nat) : Int) := by
    rw [hd, wrap_id (a := (q : Int)) (by omega) (by omega), ← Int.natCast_mul, hl, wrap_id (by omega) (by omega)]
  rw [hw]
  have e := impl_holes long (Nat.lcm a b) hl0 hle h.2 _ 0 (by omega) rfl
  simpa [holes] using e

end Go.Proofs.Ytdolabkagkdfaaa.M
