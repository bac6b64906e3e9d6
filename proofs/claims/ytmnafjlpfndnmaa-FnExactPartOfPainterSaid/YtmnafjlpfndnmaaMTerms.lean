/- Fractions in lowest terms: what a common factor doesn't change; the sum of the painters' speeds. -/
import Derived.Test.YtmnafjlpfndnmaaPx10
import Derived.Test.YtmnafjlpfndnmaaPx11
import Derived.Test.YtmnafjlpfndnmaaPx7
import Derived.Test.YtmnafjlpfndnmaaMBase
import Derived.Test.YtmnafjlpfndnmaaMAll
import Derived.Test.YtmnafjlpfndnmaaMGcd
import Derived.Test.YtmnafjlpfndnmaaMLow
import Derived.Test.YtmnafjlpfndnmaaMShare
namespace Go.Proofs.Ytmnafjlpfndnmaa.M
open Go.RowKit Go.Proofs.Ytmnafjlpfndnmaa.P Go.Proofs.YtmnafjlpfndnmaaW.PrintWords Go.Proofs.Ytmnafjlpfndnmaa.M
set_option linter.unusedVariables false
set_option linter.unusedSimpArgs false

/-- A fraction in lowest terms. -/
def low (n d : Nat) : Int × Int := (((n / Nat.gcd n d : Nat) : Int), ((d / Nat.gcd n d : Nat) : Int))
theorem low_mul (c n d : Nat) (hc : 0 < c) : low (c * n) (c * d) = low n d := by
  unfold low
  rw [Nat.gcd_mul_left, Nat.mul_div_mul_left _ _ hc, Nat.mul_div_mul_left _ _ hc]
theorem tdiv_nat (a b : Nat) : Int.tdiv (a : Int) (b : Int) = ((a / b : Nat) : Int) := by
  rw [Int.tdiv_eq_ediv_of_nonneg (by omega)]; rfl
theorem low_wrap (n d : Nat) (hn : n ≤ 1000000000000) (hd : d ≤ 1000000000000) : (wrap64 (Int.tdiv (n : Int) (Int.gcd (n : Int) (d : Int) : Int)), wrap64 (Int.tdiv (d : Int) (Int.gcd (n : Int) (d : Int) : Int))) = low n d := by
  have h1 : Int.gcd (n : Int) (d : Int) = Nat.gcd n d := rfl
  rw [h1, tdiv_nat, tdiv_nat]
  have l1 := Nat.div_le_self n (Nat.gcd n d)
  have l2 := Nat.div_le_self d (Nat.gcd n d)
  unfold low
  generalize n / Nat.gcd n d = q1 at l1 ⊢
  generalize d / Nat.gcd n d = q2 at l2 ⊢
  rw [wrap_id (by omega) (by omega), wrap_id (by omega) (by omega)]
theorem shLow_low (n d : Nat) (hd0 : 0 < d) (hn : n ≤ 1000000000000) (hd : d ≤ 1000000000000) : Ev (fun k => spec_shLow.f k (n : Int) (d : Int)) (low n d) :=
  evTo (low_wrap n d hn hd) (shLow_ev (n : Int) (d : Int) (by omega) (by omega))
theorem lowest_low (n d : Nat) (hd0 : 0 < d) (hn : n ≤ 1000000000000) (hd : d ≤ 1000000000000) : Ev (fun k => impl_lowest.f k (n : Int) (d : Int)) ((low n d).1, (low n d).2, true) :=
  evTo (by rw [← low_wrap n d hn hd]) (lowest_ev (n : Int) (d : Int) (by omega) (by omega))
/-- The product of rates, and the sum of the products of all but one. -/
def prodOf : List Nat → Nat
  | [] => 1
  | r :: rs => r * prodOf rs
def partSum : List Nat → Nat
  | [] => 0
  | r :: rs => prodOf rs + r * partSum rs
theorem prodOf_pos (rs : List Nat) (h : ∀ r ∈ rs, 0 < r) : 0 < prodOf rs := by
  induction rs with
  | nil => simp [prodOf]
  | cons r rs ih => exact Nat.mul_pos (h r List.mem_cons_self) (ih fun x hx => h x (List.mem_cons_of_mem _ hx))
theorem prodOf_snoc (rs : List Nat) (r : Nat) : prodOf (rs ++ [r]) = prodOf rs * r := by
  induction rs with
  | nil => simp [prodOf]
  | cons x xs ih => simp only [List.cons_append, prodOf, ih, Nat.mul_assoc]
theorem partSum_snoc (rs : List Nat) (r : Nat) : partSum (rs ++ [r]) = partSum rs * r + prodOf rs := by
  induction rs with
  | nil => simp [partSum, prodOf]
  | cons x xs ih => simp only [List.cons_append, partSum, prodOf, ih, prodOf_snoc, Nat.mul_add, Nat.add_mul, Nat.mul_assoc]; omega
theorem prodOf_le (rs : List Nat) (h : ∀ r ∈ rs, r ≤ 20) : prodOf rs ≤ 20 ^ rs.length := by
  induction rs with
  | nil => simp [prodOf]
  | cons r rs ih =>
    simp only [prodOf, List.length_cons, Nat.pow_succ]
    rw [Nat.mul_comm]
    exact Nat.mul_le_mul (ih fun x hx => h x (List.mem_cons_of_mem _ hx)) (h r List.mem_cons_self)
theorem pow20 (n : Nat) (h : n ≤ 5) : 20 ^ n ≤ 3200000 := by
  have : 20 ^ n ≤ 20 ^ 5 := Nat.pow_le_pow_right (by omega) h
  exact this
theorem partSum_le (rs : List Nat) (h : ∀ r ∈ rs, 1 ≤ r ∧ r ≤ 20) : partSum rs ≤ rs.length * prodOf rs := by
  induction rs with
  | nil => simp [partSum]
  | cons r rs ih =>
    have h1 := ih fun x hx => h x (List.mem_cons_of_mem _ hx)
    have h2 := h r List.mem_cons_self
    simp only [partSum, prodOf, List.length_cons]
    have h3 : r * partSum rs ≤ r * (rs.length * prodOf rs) := Nat.mul_le_mul_left r h1
    have h4 : prodOf rs ≤ r * prodOf rs := Nat.le_mul_of_pos_left _ (by omega)
    rw [Nat.add_mul, Nat.one_mul]
    have h5 : r * (rs.length * prodOf rs) = rs.length * (r * prodOf rs) := by rw [← Nat.mul_assoc, Nat.mul_comm r, Nat.mul_assoc]
    omega
theorem partSum_pos (rs : List Nat) (h : ∀ r ∈ rs, 0 < r) (h0 : 0 < rs.length) : 0 < partSum rs := by
  cases rs with
  | nil => simp at h0
  | cons r rs => have := prodOf_pos rs fun x hx => h x (List.mem_cons_of_mem _ hx); simp only [partSum]; omega
/-- Rates as natural numbers. -/
theorem rates_nat {l : List Int} (h : ∀ x ∈ l, 1 ≤ x ∧ x ≤ 20) : ∃ rs : List Nat, l = rs.map (fun r : Nat => (r : Int)) ∧ ∀ r ∈ rs, 1 ≤ r ∧ r ≤ 20 := by
  induction l with
  | nil => exact ⟨[], rfl, by simp⟩
  | cons x xs ih =>
    obtain ⟨rs, e, hr⟩ := ih fun y hy => h y (List.mem_cons_of_mem _ hy)
    have hx := h x List.mem_cons_self
    obtain ⟨n, rfl⟩ := Int.eq_ofNat_of_zero_le (show 0 ≤ x by omega)
    refine ⟨n :: rs, by rw [e]; rfl, fun r hr' => ?_⟩
    rcases List.mem_cons.1 hr' with rfl | h'
    · omega
    · exact hr r h'
theorem small (rs : List Nat) (hr : ∀ r ∈ rs, 1 ≤ r ∧ r ≤ 20) (hl : rs.length ≤ 5) : 1 ≤ prodOf rs ∧ prodOf rs ≤ 3200000 ∧ partSum rs ≤ 16000000 := by
  have h1 := prodOf_le rs fun r h => (hr r h).2
  have h2 := pow20 rs.length hl
  have h3 := partSum_le rs hr
  have h4 := prodOf_pos rs fun r h => (hr r h).1
  have h5 : rs.length * prodOf rs ≤ 5 * 3200000 := Nat.mul_le_mul hl (by omega)
  omega
theorem take_succ_snoc (rs : List Nat) (i : Nat) (h : i < rs.length) : rs.take (i + 1) = rs.take i ++ [rs[i]] := List.take_succ_eq_append_getElem h
theorem take_small (rs : List Nat) (hr : ∀ r ∈ rs, 1 ≤ r ∧ r ≤ 20) (hl : rs.length ≤ 5) (i : Nat) : 1 ≤ prodOf (rs.take i) ∧ prodOf (rs.take i) ≤ 3200000 ∧ partSum (rs.take i) ≤ 16000000 :=
  small (rs.take i) (fun r h => hr r (List.mem_of_mem_take h)) (by rw [List.length_take]; omega)
theorem shAll_l0 (rs : List Nat) (hr : ∀ r ∈ rs, 1 ≤ r ∧ r ≤ 20) (hl : rs.length ≤ 5) (d : Nat) : ∀ i : Nat, i ≤ rs.length → rs.length - i = d →
    Ev (fun k => spec_shAll.l0 k (low (partSum (rs.take i)) (prodOf (rs.take i))).1 (low (partSum (rs.take i)) (prodOf (rs.take i))).2 (rs.map fun r : Nat => (r : Int)) (rs.length : Int) (i : Int)) (low (partSum rs) (prodOf rs)) := by
  induction d with
  | zero =>
    intro i hi hd
    have e : i = rs.length := by omega
    subst e
    refine Ev.step (f := fun _ => some _) (fun k => ?_) (Ev.now _)
    simp only [spec_shAll.l0]
    rw [if_neg (by omega), List.take_length]
  | succ d ih =>
    intro i hi hd
    have hlt : i < rs.length := by omega
    have s1 := take_small rs hr hl i
    have s2 := take_small rs hr hl (i + 1)
    have hri := hr rs[i] (List.getElem_mem hlt)
    have ih2 := ih (i + 1) (by omega) (by omega)
    rw [take_succ_snoc rs i hlt, partSum_snoc, prodOf_snoc] at ih2 s2
    have hrd : rd (rs.map fun r : Nat => (r : Int)) (i : Int) = ((rs[i] : Nat) : Int) := by
      rw [rd_get _ i (by simpa using hlt)]; simp
    generalize partSum (rs.take i) = S at s1 s2 ih2 ⊢
    generalize prodOf (rs.take i) = P at s1 s2 ih2 ⊢
    generalize rs[i] = r at s2 hri ih2 hrd
    have hg : 0 < Nat.gcd S P := Nat.gcd_pos_of_pos_right _ (by omega)
    obtain ⟨n, hn⟩ := Nat.gcd_dvd_left S P
    obtain ⟨m, hm⟩ := Nat.gcd_dvd_right S P
    have e1 : S / Nat.gcd S P = n := by
      have := Nat.mul_div_cancel_left n hg
      rwa [← hn] at this
    have e2 : P / Nat.gcd S P = m := by
      have := Nat.mul_div_cancel_left m hg
      rwa [← hm] at this
    have hlow : low S P = ((n : Int), (m : Int)) := by unfold low; rw [e1, e2]
    have b1 : n ≤ S := by rw [← e1]; exact Nat.div_le_self _ _
    have b2 : m ≤ P := by rw [← e2]; exact Nat.div_le_self _ _
    have m0 : 0 < m := by
      rcases Nat.eq_zero_or_pos m with h | h
      · rw [h] at hm; omega
      · exact h
    have hkey : low (S * r + P) (P * r) = low (n * r + m) (m * r) := by
      rw [← low_mul (Nat.gcd S P) (n * r + m) (m * r) hg, Nat.mul_add, ← Nat.mul_assoc, ← Nat.mul_assoc, ← hn, ← hm]
    rw [hlow]
    rw [hkey] at ih2
    have nr : n * r ≤ 16000000 * 20 := Nat.mul_le_mul (by omega) hri.2
    have mr : m * r ≤ 3200000 * 20 := Nat.mul_le_mul (by omega) hri.2
    have mr0 : 0 < m * r := Nat.mul_pos m0 (by omega)
    refine Ev.step (f := fun k => (spec_shLow.f k ((n * r + m : Nat) : Int) ((m * r : Nat) : Int)).bind fun bt => spec_shAll.l0 k bt.1 bt.2 (rs.map fun r : Nat => (r : Int)) (rs.length : Int) ((i + 1 : Nat) : Int)) (fun k => ?_) (Ev.bind (shLow_low (n * r + m) (m * r) mr0 (by omega) (by omega)) ih2)
    simp only [spec_shAll.l0]
    rw [if_pos (by omega), if_pos (by omega), if_pos (by simp; omega), hrd, ← Int.natCast_mul, ← Int.natCast_mul]
    rw [wrap_id (a := ((n * r : Nat) : Int)) (by omega) (by omega), wrap_id (a := ((m * r : Nat) : Int)) (by omega) (by omega), wrap_id (a := ((n * r : Nat) : Int) + (m : Int)) (by omega) (by omega), wrap_id (a := (i : Int) + 1) (by omega) (by omega)]
    rfl
theorem shAll_ev (rs : List Nat) (hr : ∀ r ∈ rs, 1 ≤ r ∧ r ≤ 20) (hl : rs.length ≤ 5) : Ev (fun k => spec_shAll.f k (rs.map fun r : Nat => (r : Int))) (low (partSum rs) (prodOf rs)) := by
  have h := shAll_l0 rs hr hl _ 0 (Nat.zero_le _) rfl
  unfold spec_shAll.f
  simpa [low, partSum, prodOf] using h
/-- The program's two sums. -/
theorem speeds_l1 (rs : List Nat) (hr : ∀ r ∈ rs, 1 ≤ r ∧ r ≤ 20) (hl : rs.length ≤ 5) (d : Nat) : ∀ i : Nat, i ≤ rs.length → rs.length - i = d →
    Ev (fun k => impl_speeds.l1 k (prodOf rs : Int) ((partSum (rs.take i) * prodOf (rs.drop i) : Nat) : Int) (rs.map fun r : Nat => (r : Int)) (rs.length : Int) (i : Int)) ((prodOf rs : Int), (partSum rs : Int)) := by
  have hdec : ∀ i, prodOf (rs.take i) * prodOf (rs.drop i) = prodOf rs := by
    intro i
    have h : ∀ a b : List Nat, prodOf (a ++ b) = prodOf a * prodOf b := by
      intro a b
      induction a with
      | nil => simp [prodOf]
      | cons x xs ih => simp only [List.cons_append, prodOf, ih, Nat.mul_assoc]
    rw [← h, List.take_append_drop]
  induction d with
  | zero =>
    intro i hi hd
    have e : i = rs.length := by omega
    subst e
    refine Ev.step (f := fun _ => some _) (fun k => ?_) (Ev.now _)
    simp only [impl_speeds.l1]
    rw [if_neg (by omega), List.take_length, List.drop_length]
    simp [prodOf]
  | succ d ih =>
    intro i hi hd
    have hlt : i < rs.length := by omega
    have s0 := small rs hr hl
    have s1 := take_small rs hr hl i
    have hri := hr rs[i] (List.getElem_mem hlt)
    have ih2 := ih (i + 1) (by omega) (by omega)
    have hd1 := hdec i
    have hd2 := hdec (i + 1)
    have hdr : rs.drop i = rs[i] :: rs.drop (i + 1) := List.drop_eq_getElem_cons hlt
    rw [take_succ_snoc rs i hlt, partSum_snoc] at ih2
    rw [take_succ_snoc rs i hlt, prodOf_snoc] at hd2
    rw [hdr] at hd1 ⊢
    have hrd : rd (rs.map fun r : Nat => (r : Int)) (i : Int) = ((rs[i] : Nat) : Int) := by
      rw [rd_get _ i (by simpa using hlt)]; simp
    have hdp : 1 ≤ prodOf (rs.drop (i + 1)) := prodOf_pos _ fun r h => (hr r (List.mem_of_mem_drop h)).1
    have hpt := partSum_le (rs.take i) fun r h => hr r (List.mem_of_mem_take h)
    have htl : (rs.take i).length ≤ 5 := by rw [List.length_take]; omega
    simp only [prodOf] at hd1 ⊢
    generalize partSum (rs.take i) = S at s1 ih2 hpt ⊢
    generalize prodOf (rs.take i) = P at s1 hd1 hd2 ih2 hpt
    generalize prodOf (rs.drop (i + 1)) = D at hd1 hd2 ih2 hdp ⊢
    generalize rs[i] = r at hri ih2 hrd hd1 hd2 ⊢
    generalize (rs.take i).length = tl at hpt htl
    have hq : prodOf rs / r = P * D := by
      rw [← hd2, Nat.mul_right_comm P r D, Nat.mul_div_cancel _ (by omega)]
    have hb1 : S * (r * D) ≤ 5 * prodOf rs := by
      have h1 : S * (r * D) ≤ (5 * P) * (r * D) := Nat.mul_le_mul_right _ (Nat.le_trans hpt (Nat.mul_le_mul_right _ htl))
      rwa [Nat.mul_assoc, hd1] at h1
    have hb2 : P * D ≤ prodOf rs := by rw [← hq]; exact Nat.div_le_self _ _
    refine Ev.step (fun k => ?_) ih2
    simp only [impl_speeds.l1]
    rw [if_pos (by omega), if_pos (by omega), if_pos (by simp; omega), hrd, if_neg (by omega), tdiv_nat, hq]
    rw [wrap_id (a := ((P * D : Nat) : Int)) (by omega) (by omega), wrap_id (a := ((S * (r * D) : Nat) : Int) + ((P * D : Nat) : Int)) (by omega) (by omega), wrap_id (a := (i : Int) + 1) (by omega) (by omega), ← Int.natCast_add, show S * (r * D) + P * D = (S * r + P) * D from by rw [Nat.add_mul, Nat.mul_assoc]]
    rfl
theorem speeds_l0 (rs : List Nat) (hr : ∀ r ∈ rs, 1 ≤ r ∧ r ≤ 20) (hl : rs.length ≤ 5) (d : Nat) : ∀ i : Nat, i ≤ rs.length → rs.length - i = d →
    Ev (fun k => impl_speeds.l0 k (rs.map fun r : Nat => (r : Int)) (prodOf (rs.take i) : Int) 0 (rs.map fun r : Nat => (r : Int)) (rs.length : Int) (i : Int)) ((prodOf rs : Int), (partSum rs : Int)) := by
  induction d with
  | zero =>
    intro i hi hd
    have e : i = rs.length := by omega
    subst e
    have h := speeds_l1 rs hr hl _ 0 (Nat.zero_le _) rfl
    refine Ev.step (fun k => ?_) h
    simp only [impl_speeds.l0]
    rw [if_neg (by omega), List.take_length]
    simp [partSum]
  | succ d ih =>
    intro i hi hd
    have hlt : i < rs.length := by omega
    have s1 := take_small rs hr hl i
    have s2 := take_small rs hr hl (i + 1)
    have ih2 := ih (i + 1) (by omega) (by omega)
    have hrd : rd (rs.map fun r : Nat => (r : Int)) (i : Int) = ((rs[i] : Nat) : Int) := by
      rw [rd_get _ i (by simpa using hlt)]; simp
    rw [take_succ_snoc rs i hlt, prodOf_snoc] at ih2 s2
    refine Ev.step (fun k => ?_) ih2
    simp only [impl_speeds.l0]
    rw [if_pos (by omega), if_pos (by omega), if_pos (by simp; omega), hrd, ← Int.natCast_mul]
    generalize prodOf (rs.take i) * rs[i] = Q at s2 ⊢
    rw [wrap_id (a := (Q : Int)) (by omega) (by omega), wrap_id (a := (i : Int) + 1) (by omega) (by omega)]
    rfl
theorem speeds_ev (rs : List Nat) (hr : ∀ r ∈ rs, 1 ≤ r ∧ r ≤ 20) (hl : rs.length ≤ 5) : Ev (fun k => impl_speeds.f k (rs.map fun r : Nat => (r : Int))) ((prodOf rs : Int), (partSum rs : Int)) := by
  have h := speeds_l0 rs hr hl _ 0 (Nat.zero_le _) rfl
  unfold impl_speeds.f
  simpa [prodOf] using h

end Go.Proofs.Ytmnafjlpfndnmaa.M
