/- Ground, and the squares of rails on it. -/
import Derived.Test.YtdolabkagkdfaaaPx1
import Derived.Test.YtdolabkagkdfaaaPx16
import Derived.Test.YtdolabkagkdfaaaPx17
import Derived.Test.YtdolabkagkdfaaaMBase
import Derived.Test.YtdolabkagkdfaaaMAll
import Derived.Test.YtdolabkagkdfaaaMPosts
namespace Go.Proofs.Ytdolabkagkdfaaa.M
open Go.RowKit Go.Proofs.Ytdolabkagkdfaaa.P Go.Proofs.YtdolabkagkdfaaaW.PrintWords Go.Proofs.Ytdolabkagkdfaaa.M
set_option linter.unusedVariables false
set_option linter.unusedSimpArgs false

def groundB (l : List Int) : Bool := (decide (2 ≤ (l.length : Int)) && decide ((l.length : Int) ≤ 12)) && l.all fun n => decide (0 ≤ n) && decide (n ≤ 50)
theorem poGround_ev (l : List Int) (hl : l.length ≤ 1048576) : Ev (fun k => spec_poGround.f k l) (groundB l) := by
  unfold spec_poGround.f groundB
  rw [l1In_f]
  simp only [Option.bind_some]
  cases h : (decide (2 ≤ (l.length : Int)) && decide ((l.length : Int) ≤ 12))
  · exact Ev.now _
  · exact Ev.bind (l1All_ev l 0 50 (by omega)) (Ev.now _)
theorem isGround_f (l : List Int) : impl_isGround.f l = some (groundB l) := by
  unfold impl_isGround.f groundB impl_allWithin.f
  have h : impl_within.f (l.length : Int) 2 12 = some (decide (2 ≤ (l.length : Int)) && decide ((l.length : Int) ≤ 12)) := by
    unfold impl_within.f
    by_cases h : (l.length : Int) ≥ 2
    · rw [if_pos h]; simp [h]
    · rw [if_neg h]; simp [show ¬ 2 ≤ (l.length : Int) from h]
  rw [h]
  cases h2 : (decide (2 ≤ (l.length : Int)) && decide ((l.length : Int) ≤ 12)) <;> rfl
theorem ground_bounds {l : List Int} (h : groundB l = true) : 2 ≤ l.length ∧ l.length ≤ 12 ∧ ∀ x ∈ l, 0 ≤ x ∧ x ≤ 50 := by
  unfold groundB at h
  simp only [Bool.and_eq_true, decide_eq_true_eq, List.all_eq_true] at h
  exact ⟨by omega, by omega, h.2⟩
theorem sq_bound (x b : Int) (h1 : -b ≤ x) (h2 : x ≤ b) : 0 ≤ x * x ∧ x * x ≤ b * b := by
  rw [← Int.natAbs_mul_self]
  have h : x.natAbs ≤ b.toNat := by omega
  have h3 := Nat.mul_le_mul h h
  have h4 : ((b.toNat * b.toNat : Nat) : Int) = b * b := by rw [Int.natCast_mul, Int.toNat_of_nonneg (by omega)]
  omega
theorem wn (n : Nat) (h : n ≤ 1000) : wrap64 (n : Int) = (n : Int) := wrap_id (by omega) (by omega)
theorem wn1 (n : Nat) (h : n ≤ 1000) : wrap64 ((n : Int) + 1) = ((n + 1 : Nat) : Int) := (congrArg wrap64 (show (n : Int) + 1 = ((n + 1 : Nat) : Int) from rfl)).trans (wrap_id (by omega) (by omega))
theorem wsq (r n : Nat) (h : r * r ≤ n) (hn : n ≤ 1000000000) : wrap64 ((r : Int) * (r : Int)) = ((r * r : Nat) : Int) := by
  rw [← Int.natCast_mul]
  generalize r * r = q at h
  exact wrap_id (by omega) (by omega)
theorem sq_val (a b g : Int) (ha : 0 ≤ a ∧ a ≤ 50) (hb : 0 ≤ b ∧ b ≤ 50) (hg : 1 ≤ g ∧ g ≤ 500) :
    ∃ v : Int, 0 ≤ v ∧ v ≤ 300000 ∧ wrap64 ((wrap64 (g * g)) + (wrap64 ((wrap64 (a - b)) * (wrap64 (a - b))))) = v := by
  have q1 := sq_bound (a - b) 50 (by omega) (by omega)
  have q2 := sq_bound g 500 (by omega) (by omega)
  have w0 : wrap64 (a - b) = a - b := wrap_id (by omega) (by omega)
  rw [w0]
  generalize (a - b) * (a - b) = y at q1
  generalize g * g = z at q2
  have wz : wrap64 z = z := wrap_id (by omega) (by omega)
  have wy : wrap64 y = y := wrap_id (by omega) (by omega)
  rw [wz, wy]
  exact ⟨z + y, by omega, by omega, wrap_id (by omega) (by omega)⟩
theorem squares_both (l : List Int) (g : Int) (hl : 2 ≤ l.length ∧ l.length ≤ 12) (hx : ∀ x ∈ l, 0 ≤ x ∧ x ≤ 50) (hg : 1 ≤ g ∧ g ≤ 500) (d : Nat) : ∀ (i : Nat) (out : List Int), i + 1 ≤ l.length → l.length - (i + 1) = d → out.length = i → (∀ x ∈ out, 0 ≤ x ∧ x ≤ 300000) →
    ∃ r : List Int, r.length ≤ 12 ∧ (∀ x ∈ r, 0 ≤ x ∧ x ≤ 300000) ∧ Ev (fun k => spec_poSquares.l0 k l g out ((i + 1 : Nat) : Int)) r ∧ Ev (fun k => impl_SquaresOfRails.l0 k l g out (l.drop 1) ((l.drop 1).length : Int) (i : Int)) (r, true) := by
  have hdl : (l.drop 1).length = l.length - 1 := List.length_drop
  induction d with
  | zero =>
    intro i out hi hd ho hb
    refine ⟨out, by omega, hb, Ev.step (f := fun _ => some _) (fun k => ?_) (Ev.now _), Ev.step (f := fun _ => some _) (fun k => ?_) (Ev.now _)⟩
    · simp only [spec_poSquares.l0]
      rw [if_neg (by omega)]
    · simp only [impl_SquaresOfRails.l0]
      rw [if_neg (by rw [hdl]; omega)]
  | succ d ih =>
    intro i out hi hd ho hb
    have h1 : i + 1 < l.length := by omega
    have h2 : i < l.length := by omega
    have b1 := hx _ (List.getElem_mem h1)
    have b2 := hx _ (List.getElem_mem h2)
    have c0 : (i : Int) < (((l.drop 1).length : Nat) : Int) := by omega
    have c1 : (0 : Int) ≤ (i : Int) := by omega
    have c2 : (i : Int) < (l.length : Int) := by omega
    have c3 : out.length < 17592186044416 := by omega
    have c4 : ((i + 1 : Nat) : Int) < (l.length : Int) := by omega
    have c5 : (0 : Int) ≤ ((i + 1 : Nat) : Int) := by omega
    have i1 : i + 1 + 1 ≤ l.length := by omega
    have i2 : l.length - (i + 1 + 1) = d := by omega
    have e4 : ((i + 1 : Nat) : Int) - 1 = (i : Int) := by omega
    have e5 : ((i + 1 : Nat) : Int) + 1 = ((i + 1 + 1 : Nat) : Int) := by omega
    have e6 : (i : Int) + 1 = ((i + 1 : Nat) : Int) := by omega
    have u0 : i ≤ 1000 := by omega
    have u1 : i + 1 ≤ 1000 := by omega
    have u2 : i + 1 + 1 ≤ 1000 := by omega
    have u3 : i < (l.drop 1).length := by omega
    have w4 : wrap64 (((i + 1 : Nat) : Int) - 1) = (i : Int) := (congrArg wrap64 e4).trans (wn i u0)
    have w5 : wrap64 (((i + 1 : Nat) : Int) + 1) = ((i + 1 + 1 : Nat) : Int) := (congrArg wrap64 e5).trans (wn _ u2)
    have w6 : wrap64 ((i : Int) + 1) = ((i + 1 : Nat) : Int) := (congrArg wrap64 e6).trans (wn _ u1)
    have r1 : rd l ((i + 1 : Nat) : Int) = l[i + 1] := rd_get l (i + 1) h1
    have r2 : rd l (i : Int) = l[i] := rd_get l i h2
    have r3 : rd (l.drop 1) (i : Int) = l[i + 1] := by
      rw [rd_get _ i u3, List.getElem_drop]
      exact getElem_congr_idx (Nat.add_comm 1 i)
    obtain ⟨v, hv1, hv2, hv⟩ := sq_val _ _ g b1 b2 hg
    obtain ⟨r, hr, hrb, e1, e2⟩ := ih (i + 1) (out ++ [v]) i1 i2 (by rw [List.length_append, ho]; rfl) (fun x hx2 => by
      rcases List.mem_append.1 hx2 with h | h
      · exact hb x h
      · rw [List.mem_singleton.1 h]; exact ⟨hv1, hv2⟩)
    refine ⟨r, hr, hrb, Ev.step (fun k => ?_) e1, Ev.step (fun k => ?_) e2⟩
    · simp only [spec_poSquares.l0]
      rw [w4, w5, r1, r2, hv, if_pos c4, if_pos c5, if_pos c1, if_pos c2, if_pos c3]
    · simp only [impl_SquaresOfRails.l0]
      rw [w6, r3, r2, hv, if_pos c0, if_pos c1, if_pos c0, if_pos c2, if_pos c3]
theorem squares_ev (l : List Int) (g : Int) (hl : l.length ≤ 1048576) : ∃ (r : List Int) (ok : Bool), r.length ≤ 12 ∧ (∀ x ∈ r, 0 ≤ x ∧ x ≤ 300000) ∧ Ev (fun k => impl_SquaresOfRails.f k l g) (r, ok) ∧ ok = (groundB l && long g) ∧ (ok = false → r = []) ∧ (ok = true → Ev (fun k => spec_poSquares.f k l g) r) := by
  have j : Ev (fun k => impl_SquaresOfRails.j0 k l g true) ([], false) := by
    refine Ev.step (fun k => rfl) ?_
    simp only [impl_SquaresOfRails.j0, if_true]
    exact Ev.now _
  have ha : impl_areLong.f [g] = some (long g) := by rw [areLong_f]; simp
  cases hb : groundB l with
  | false =>
    refine ⟨[], false, by simp, by simp, ?_, rfl, fun _ => rfl, fun h => by simp at h⟩
    unfold impl_SquaresOfRails.f
    rw [isGround_f, hb]
    exact j
  | true =>
    cases hg : long g with
    | false =>
      refine ⟨[], false, by simp, by simp, ?_, rfl, fun _ => rfl, fun h => by simp at h⟩
      unfold impl_SquaresOfRails.f
      rw [isGround_f, hb, ha, hg]
      exact j
    | true =>
      have h1 := ground_bounds hb
      have h2 := (long_iff _).1 hg
      obtain ⟨r, hr, hrb, e1, e2⟩ := squares_both l g ⟨h1.1, h1.2.1⟩ h1.2.2 h2 _ 0 [] (by omega) rfl rfl (by simp)
      refine ⟨r, true, hr, hrb, ?_, rfl, fun h => by simp at h, fun _ => e1⟩
      unfold impl_SquaresOfRails.f
      rw [isGround_f, hb, ha, hg]
      simp only [Option.bind_some, if_true, Bool.not_true]
      refine Ev.step (fun k => rfl) ?_
      have c1 : 1 ≤ (l.length : Int) := by omega
      simp only [impl_SquaresOfRails.j0, Bool.false_eq_true, if_false, c1, if_true]
      exact e2

end Go.Proofs.Ytdolabkagkdfaaa.M
