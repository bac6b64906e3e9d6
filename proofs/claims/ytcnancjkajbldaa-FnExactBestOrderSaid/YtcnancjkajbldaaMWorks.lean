/- What each painter works: the program's way (boards taken off the front), as a plain list. -/
import Derived.Test.YtcnancjkajbldaaPx5
import Derived.Test.YtcnancjkajbldaaPx6
import Derived.Test.YtcnancjkajbldaaMBase
import Derived.Test.YtcnancjkajbldaaMAll
import Derived.Test.YtcnancjkajbldaaMShare
namespace Go.Proofs.Ytcnancjkajbldaa.M
open Go.RowKit Go.Proofs.Ytcnancjkajbldaa.P Go.Proofs.YtcnancjkajbldaaW.PrintWords Go.Proofs.Ytcnancjkajbldaa.M
set_option linter.unusedVariables false
set_option linter.unusedSimpArgs false

/-- What each painter works by a share. -/
def worksL : List Int → List Int → List Int
  | _, [] => []
  | w, n :: s => sm (w.take n.toNat) :: worksL (w.drop n.toNat) s
theorem worksL_length (s : List Int) : ∀ w : List Int, (worksL w s).length = s.length := by
  induction s with
  | nil => intro w; rfl
  | cons n s ih => intro w; simp [worksL, ih]
theorem sub_bounds {w : List Int} (hx : ∀ x ∈ w, 0 ≤ x ∧ x ≤ 100) (a b : Nat) : ∀ x ∈ (w.drop a).take b, 0 ≤ x ∧ x ≤ 100 := fun x h => hx x (List.mem_of_mem_drop (List.mem_of_mem_take h))
theorem worksL_range (s : List Int) : ∀ w : List Int, (∀ x ∈ w, 0 ≤ x ∧ x ≤ 100) → w.length ≤ 12 → ∀ x ∈ worksL w s, 0 ≤ x ∧ x ≤ 1200 := by
  induction s with
  | nil => intro w _ _ x h; simp [worksL] at h
  | cons n s ih =>
    intro w hx hl x h
    simp only [worksL, List.mem_cons] at h
    rcases h with rfl | h
    · have h1 := sm_range 100 (by omega) (w.take n.toNat) (fun y hy => hx y (List.mem_of_mem_take hy))
      have h2 : (w.take n.toNat).length ≤ 12 := by rw [List.length_take]; omega
      omega
    · exact ih (w.drop n.toNat) (fun y hy => hx y (List.mem_of_mem_drop hy)) (by rw [List.length_drop]; omega) x h
theorem sm_nonneg (l : List Int) (h : ∀ x ∈ l, 0 ≤ x) : 0 ≤ sm l := by
  induction l with
  | nil => simp [sm]
  | cons x xs ih =>
    have h1 := ih (fun y hy => h y (List.mem_cons_of_mem _ hy))
    have h2 := h x List.mem_cons_self
    simp only [sm]; omega
theorem implWorks_l0 (s : List Int) (hs : ∀ n ∈ s, 0 ≤ n) (hsl : s.length ≤ 1000) (d : Nat) : ∀ (i : Nat) (w out : List Int), i ≤ s.length → s.length - i = d → (∀ x ∈ w, 0 ≤ x ∧ x ≤ 100) → w.length ≤ 12 → sm (s.drop i) ≤ (w.length : Int) → out.length = i →
    Ev (fun k => impl_works.l0 k w out s (s.length : Int) (i : Int)) (out ++ worksL w (s.drop i)) := by
  induction d with
  | zero =>
    intro i w out hi hd hx hl hsm ho
    have e : i = s.length := by omega
    subst e
    refine Ev.step (f := fun _ => some _) (fun k => ?_) (Ev.now _)
    simp only [impl_works.l0]
    rw [if_neg (by omega), List.drop_length]
    simp [worksL]
  | succ d ih =>
    intro i w out hi hd hx hl hsm ho
    have hlt : i < s.length := by omega
    have hn := hs s[i] (List.getElem_mem hlt)
    rw [List.drop_eq_getElem_cons hlt] at hsm ⊢
    simp only [sm] at hsm
    have h0 := sm_nonneg (s.drop (i + 1)) (fun x h => hs x (List.mem_of_mem_drop h))
    have hrd := rd_get s i hlt
    have ih2 := ih (i + 1) (w.drop s[i].toNat) (out ++ [sm (w.take s[i].toNat)]) (by omega) (by omega) (fun x h => hx x (List.mem_of_mem_drop h)) (by rw [List.length_drop]; omega) (by rw [List.length_drop]; omega) (by simp; omega)
    have hsum := sumOf_ev (w.take s[i].toNat) (by rw [List.length_take]; omega) (fun x h => by have := hx x (List.mem_of_mem_take h); omega)
    refine Ev.step (f := fun k => (impl_sumOf.f k (w.take s[i].toNat)).bind fun t => impl_works.l0 k (w.drop s[i].toNat) (out ++ [t]) s (s.length : Int) ((i + 1 : Nat) : Int)) (fun k => ?_) (Ev.bind hsum (evTo (by simp [worksL]) ih2))
    simp only [impl_works.l0]
    rw [if_pos (by omega), if_pos (by omega), if_pos (by omega), hrd, if_pos hn, if_pos (by omega)]
    have hout : out.length < 17592186044416 := by omega
    simp only [hout, if_true]
    rw [wrap_id (a := (i : Int) + 1) (by omega) (by omega)]
    rfl
theorem implWorks_ev (w s : List Int) (hx : ∀ x ∈ w, 0 ≤ x ∧ x ≤ 100) (hl : w.length ≤ 12) (hs : ∀ n ∈ s, 0 ≤ n) (hsl : s.length ≤ 1000) (hsm : sm s ≤ (w.length : Int)) : Ev (fun k => impl_works.f k w s) (worksL w s) :=
  implWorks_l0 s hs hsl _ 0 w [] (Nat.zero_le _) rfl hx hl hsm rfl
/-- What each painter works, times its rate. -/
def timesL (w r s : List Int) : List Int := List.zipWith (fun a b => a * b) (worksL w s) r
theorem times_bounds {w r s : List Int} (hx : ∀ x ∈ w, 0 ≤ x ∧ x ≤ 100) (hl : w.length ≤ 12) (hr : ∀ x ∈ r, 1 ≤ x ∧ x ≤ 20) : ∀ x ∈ timesL w r s, 0 ≤ x ∧ x ≤ 24000 := by
  intro x h
  unfold timesL at h
  rw [List.mem_iff_getElem] at h
  obtain ⟨i, hi, rfl⟩ := h
  rw [List.getElem_zipWith]
  simp only [List.length_zipWith] at hi
  have h1 := worksL_range s w hx hl _ (List.getElem_mem (show i < (worksL w s).length by omega))
  have h2 := hr _ (List.getElem_mem (show i < r.length by omega))
  constructor
  · exact Int.mul_nonneg h1.1 (by omega)
  · exact Int.le_trans (Int.mul_le_mul h1.2 h2.2 (by omega) (by omega)) (by omega)
theorem implTimes_l0 (W r : List Int) (hW : ∀ x ∈ W, 0 ≤ x ∧ x ≤ 1200) (hr : ∀ x ∈ r, 1 ≤ x ∧ x ≤ 20) (hl : W.length = r.length) (hl5 : r.length ≤ 1000) (d : Nat) : ∀ i : Nat, i ≤ r.length → r.length - i = d →
    Ev (fun k => impl_times.l0 k ((List.zipWith (fun a b => a * b) W r).take i ++ W.drop i) r (r.length : Int) (i : Int)) (List.zipWith (fun a b => a * b) W r) := by
  have hz : (List.zipWith (fun a b : Int => a * b) W r).length = r.length := by simp; omega
  induction d with
  | zero =>
    intro i hi hd
    have e : i = r.length := by omega
    subst e
    refine Ev.step (f := fun _ => some _) (fun k => ?_) (Ev.now _)
    simp only [impl_times.l0]
    rw [if_neg (by omega), List.drop_of_length_le (by omega), List.take_of_length_le (by omega)]
    simp
  | succ d ih =>
    intro i hi hd
    have hlt : i < r.length := by omega
    have hltW : i < W.length := by omega
    have h1 := hW _ (List.getElem_mem hltW)
    have h2 := hr _ (List.getElem_mem hlt)
    have hlen : ((List.zipWith (fun a b : Int => a * b) W r).take i ++ W.drop i).length = r.length := by
      rw [List.length_append, List.length_take, List.length_drop, hz]; omega
    have hread : rd ((List.zipWith (fun a b : Int => a * b) W r).take i ++ W.drop i) (i : Int) = W[i] := by
      rw [rd_get _ i (by rw [hlen]; exact hlt), List.getElem_append_right (by rw [List.length_take, hz]; omega)]
      simp only [List.length_take, hz, List.getElem_drop]
      congr 1
      omega
    have hset : ((List.zipWith (fun a b : Int => a * b) W r).take i ++ W.drop i).set i (W[i] * r[i]) = (List.zipWith (fun a b : Int => a * b) W r).take (i + 1) ++ W.drop (i + 1) := by
      rw [List.set_append, if_neg (by rw [List.length_take, hz]; omega), List.length_take, hz, show i - min i r.length = 0 from by omega, List.drop_eq_getElem_cons hltW, List.set_cons_zero, List.take_succ_eq_append_getElem (by rw [hz]; exact hlt), List.getElem_zipWith, List.append_assoc]
      rfl
    have hp1 : 0 ≤ W[i] * r[i] := Int.mul_nonneg h1.1 (by omega)
    have hp2 : W[i] * r[i] ≤ 1200 * 20 := Int.mul_le_mul h1.2 h2.2 (by omega) (by omega)
    refine Ev.step (fun k => ?_) (ih (i + 1) (by omega) (by omega))
    simp only [impl_times.l0]
    rw [if_pos (by omega), if_pos (by omega), if_pos (by omega), if_pos (by rw [hlen]; omega), hread, rd_get r i hlt, wrap_id (a := W[i] * r[i]) (by omega) (by omega), Int.toNat_natCast, hset, wrap_id (a := (i : Int) + 1) (by omega) (by omega)]
    rfl
theorem implTimes_ev (w r s : List Int) (hx : ∀ x ∈ w, 0 ≤ x ∧ x ≤ 100) (hl : w.length ≤ 12) (hr : ∀ x ∈ r, 1 ≤ x ∧ x ≤ 20) (hrl : r.length ≤ 5) (hs : ∀ n ∈ s, 0 ≤ n) (hsl : s.length = r.length) (hsm : sm s ≤ (w.length : Int)) : Ev (fun k => impl_times.f k w r s) (timesL w r s) := by
  unfold impl_times.f
  refine Ev.bind (implWorks_ev w s hx hl hs (by omega) hsm) ?_
  have h := implTimes_l0 (worksL w s) r (worksL_range s w hx hl) hr (by rw [worksL_length]; omega) (by omega) _ 0 (Nat.zero_le _) rfl
  simpa [timesL] using h

end Go.Proofs.Ytcnancjkajbldaa.M
