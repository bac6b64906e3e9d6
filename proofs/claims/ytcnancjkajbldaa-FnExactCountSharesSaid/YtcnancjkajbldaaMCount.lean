/- How many shares take no longer than a time, as the reference counts them. -/
import Derived.Test.YtcnancjkajbldaaPx13
import Derived.Test.YtcnancjkajbldaaPx15
import Derived.Test.YtcnancjkajbldaaPx2
import Derived.Test.YtcnancjkajbldaaMBase
import Derived.Test.YtcnancjkajbldaaMAll
import Derived.Test.YtcnancjkajbldaaMShare
import Derived.Test.YtcnancjkajbldaaMWorks
import Derived.Test.YtcnancjkajbldaaMMax
import Derived.Test.YtcnancjkajbldaaMShares
import Derived.Test.YtcnancjkajbldaaMLeast
namespace Go.Proofs.Ytcnancjkajbldaa.M
open Go.RowKit Go.Proofs.Ytcnancjkajbldaa.P Go.Proofs.YtcnancjkajbldaaW.PrintWords Go.Proofs.Ytcnancjkajbldaa.M
set_option linter.unusedVariables false
set_option linter.unusedSimpArgs false

/-- The sum of g i .. g (i + d - 1). -/
def sumR (g : Nat → Nat) : Nat → Nat → Nat
  | _, 0 => 0
  | i, d + 1 => g i + sumR g (i + 1) d
theorem countP_range (g : Nat → List (List Int)) (P : List Int → Bool) (d : Nat) : ∀ i, ((List.range' i d).flatMap g).countP P = sumR (fun n => (g n).countP P) i d := by
  induction d with
  | zero => intro i; rfl
  | succ d ih =>
    intro i
    rw [List.range'_succ, List.flatMap_cons, List.countP_append, ih]
    rfl
theorem sumR_zero (g : Nat → Nat) (d : Nat) : ∀ i, (∀ j, i ≤ j → g j = 0) → sumR g i d = 0 := by
  induction d with
  | zero => intro i _; rfl
  | succ d ih =>
    intro i h
    show g i + sumR g (i + 1) d = 0
    rw [h i (Nat.le_refl _), ih (i + 1) (fun j hj => h j (by omega))]
/-- Of painters who are alike. -/
def cnt (p : Nat) (w : List Int) (T : Int) : Nat := (shL p w.length).countP (fun s => decide (val w (List.replicate (p + 1) 1) s ≤ T))
theorem cnt_succ (p : Nat) (w : List Int) (T : Int) (hw : ∀ x ∈ w, 0 ≤ x) : cnt (p + 1) w T = sumR (fun n => if sm (w.take n) ≤ T then cnt p (w.drop n) T else 0) 0 (w.length + 1) := by
  have h : ∀ n, n ≤ w.length → ((shL p (w.length - n)).map (fun s => (n : Int) :: s)).countP (fun s => decide (val w (List.replicate (p + 1 + 1) 1) s ≤ T)) = (if sm (w.take n) ≤ T then cnt p (w.drop n) T else 0) := by
    intro n hn
    rw [List.countP_map]
    have hdl : (w.drop n).length = w.length - n := List.length_drop
    by_cases c : sm (w.take n) ≤ T
    · rw [if_pos c]
      unfold cnt
      rw [hdl]
      congr 1
      funext s
      simp only [Function.comp_apply]
      rw [List.replicate_succ, val_cons, Int.mul_one]
      congr 1
      rw [eq_iff_iff]
      omega
    · rw [if_neg c, List.countP_eq_zero]
      intro s _
      simp only [Function.comp_apply, decide_eq_true_eq]
      rw [List.replicate_succ, val_cons, Int.mul_one]
      omega
  unfold cnt
  simp only [shL]
  rw [List.range_eq_range', countP_range]
  have h2 : ∀ (f g : Nat → Nat) (d i : Nat), (∀ j, i ≤ j → j < i + d → f j = g j) → sumR f i d = sumR g i d := by
    intro f g d
    induction d with
    | zero => intro i _; rfl
    | succ d ih =>
      intro i h
      show f i + sumR f (i + 1) d = g i + sumR g (i + 1) d
      rw [h i (Nat.le_refl _) (by omega), ih (i + 1) (fun j h1 h2 => h j (by omega) (by omega))]
  exact h2 _ _ _ 0 (fun j _ hj => h j (by omega))
theorem cnt_bound (p : Nat) (w : List Int) (T : Int) (hl : w.length ≤ 12) (hp : p ≤ 4) : cnt p w T ≤ 28561 := by
  have h1 : cnt p w T ≤ (shL p w.length).length := List.countP_le_length
  have h2 := shL_len p w.length hl
  have h3 : 13 ^ p ≤ 13 ^ 4 := Nat.pow_le_pow_right (by omega) hp
  have h4 : 13 ^ 4 = 28561 := by decide
  omega
theorem sumR_le (g : Nat → Nat) (d : Nat) : ∀ i, g i ≤ sumR g i (d + 1) ∧ sumR g (i + 1) d ≤ sumR g i (d + 1) := fun i => by
  show g i ≤ g i + sumR g (i + 1) d ∧ sumR g (i + 1) d ≤ g i + sumR g (i + 1) d
  omega
theorem sm_take_mono (w : List Int) (hw : ∀ x ∈ w, 0 ≤ x) (n m : Nat) (h : n ≤ m) : sm (w.take n) ≤ sm (w.take m) := by
  have := own_mono w hw 1 (by omega) n m h
  omega
theorem shCount_ev (w : List Int) (hw : ∀ x ∈ w, 1 ≤ x ∧ x ≤ 100) (hl : w.length ≤ 12) (T : Int) (p : Nat) : ∀ (a : Nat), p ≤ 4 → a ≤ w.length →
    Ev (fun k => spec_shCount.f k w (a : Int) ((p + 1 : Nat) : Int) T) ((cnt p (w.drop a) T : Nat) : Int) := by
  induction p with
  | zero =>
    intro a _ ha
    have hsum := shSum_ev (w.drop a) (by rw [List.length_drop]; omega) (fun x h => by have := hw x (List.mem_of_mem_drop h); omega)
    have c1 : ((0 + 1 : Nat) : Int) = 1 := rfl
    have c3 : 0 ≤ (a : Int) := by omega
    have c4 : (a : Int) ≤ (w.length : Int) := by omega
    have h0 : 0 ≤ sm (w.drop a) := sm_nonneg _ (fun q hq => by have := hw q (List.mem_of_mem_drop hq); omega)
    have hc : cnt 0 (w.drop a) T = if sm (w.drop a) ≤ T then 1 else 0 := by
      unfold cnt
      have hv : val (w.drop a) (List.replicate (0 + 1) 1) [((w.drop a).length : Int)] = sm (w.drop a) := by
        rw [List.replicate_succ, val_cons, List.take_length, Int.mul_one]
        show max (sm (w.drop a)) (-1) = _
        omega
      simp only [shL, List.countP_cons, List.countP_nil, hv, Nat.zero_add]
      by_cases c : sm (w.drop a) ≤ T
      · rw [if_pos c, if_pos (decide_eq_true c)]
      · rw [if_neg c, decide_eq_false c]; rfl
    refine Ev.step (f := fun k => (spec_shSum.f k (w.drop a)).bind fun t => if t > T then some 0 else some 1) (fun k => ?_) (Ev.bind hsum (Ev.const ?_))
    · simp only [spec_shCount.f]
      rw [if_pos c1, if_pos c3, if_pos c4, Int.toNat_natCast]
    · rw [hc]
      by_cases c : sm (w.drop a) ≤ T
      · rw [if_pos c, if_neg (by omega)]; rfl
      · rw [if_neg c, if_pos (by omega)]; rfl
  | succ p ih =>
    intro a hp ha
    have hwa : ∀ x ∈ w.drop a, 0 ≤ x := fun x h => by have := hw x (List.mem_of_mem_drop h); omega
    have hb : (w.drop a).length = w.length - a := List.length_drop
    have hdd : ∀ n, (w.drop a).drop n = w.drop (a + n) := fun n => by rw [List.drop_drop]
    have htot := cnt_bound (p + 1) (w.drop a) T (by omega) hp
    rw [cnt_succ p (w.drop a) T hwa, hb] at htot ⊢
    obtain ⟨g, hg⟩ : ∃ g : Nat → Nat, g = fun n => if sm ((w.drop a).take n) ≤ T then cnt p ((w.drop a).drop n) T else 0 := ⟨_, rfl⟩
    rw [← hg] at htot ⊢
    have hmono := sm_take_mono (w.drop a) hwa
    have loop : ∀ (q n acc : Nat), a + n + q = w.length + 1 → acc + sumR g n q ≤ 28561 → Ev (fun k => spec_shCount.l0 k w (a : Int) ((p + 1 + 1 : Nat) : Int) T (acc : Int) (n : Int)) ((acc + sumR g n q : Nat) : Int) := by
      intro q
      induction q with
      | zero =>
        intro n acc hq hacc
        have c1 : ¬ ((a + n : Nat) : Int) ≤ (w.length : Int) := by omega
        have hle : a + n ≤ 1000000 := by omega
        refine Ev.step (f := fun _ => some (acc : Int)) (fun k => ?_) (Ev.const rfl)
        simp only [spec_shCount.l0]
        rw [wadd a n hle, if_neg c1]
      | succ q ihq =>
        intro n acc hq hacc
        have c1 : ((a + n : Nat) : Int) ≤ (w.length : Int) := by omega
        have c2 : 0 ≤ (a : Int) := by omega
        have c3 : (a : Int) ≤ ((a + n : Nat) : Int) := by omega
        have hle : a + n ≤ 1000000 := by omega
        have hn1 : n ≤ 1000000 := by omega
        have hp2 : p + 1 + 1 ≤ 1000000 := by omega
        have hsum := shSum_ev ((w.drop a).take n) (by rw [List.length_take]; omega) (fun y h => by have := hw y (List.mem_of_mem_drop (List.mem_of_mem_take h)); omega)
        have hr1 := ih (a + n) (by omega) (by omega)
        have hgn : sumR g n (q + 1) = g n + sumR g (n + 1) q := rfl
        refine Ev.step (f := fun k => (spec_shSum.f k ((w.drop a).take n)).bind fun t => if t ≤ T then (spec_shCount.f k w ((a + n : Nat) : Int) ((p + 1 : Nat) : Int) T).bind fun t2 => spec_shCount.l0 k w (a : Int) ((p + 1 + 1 : Nat) : Int) T (wrap64 ((acc : Int) + t2)) ((n + 1 : Nat) : Int) else some (acc : Int)) (fun k => ?_) (Ev.bind hsum ?_)
        · simp only [spec_shCount.l0]
          rw [wadd a n hle, wone n hn1, wpred (p + 1 + 1) (by omega) hp2, if_pos c1, if_pos c2, if_pos c3, Int.toNat_natCast, Int.toNat_natCast, take_drop_mid]
          rfl
        · by_cases c : sm ((w.drop a).take n) ≤ T
          · have hgv : g n = cnt p (w.drop (a + n)) T := by rw [hg]; show (if _ then _ else _) = _; rw [if_pos c, hdd]
            simp only [if_pos c]
            refine Ev.bind hr1 ?_
            rw [← hgv, wadd acc (g n) (by omega), hgn, ← Nat.add_assoc]
            exact ihq (n + 1) (acc + g n) (by omega) (by omega)
          · simp only [if_neg c]
            have hz : sumR g n (q + 1) = 0 := sumR_zero g (q + 1) n (fun j hj => by
              have := hmono n j hj
              rw [hg]
              show (if _ then _ else _) = _
              rw [if_neg (by omega)])
            rw [hz]
            exact Ev.now _
    have c1 : ¬ ((p + 1 + 1 : Nat) : Int) = 1 := by omega
    have h0 := loop (w.length + 1 - a) 0 0 (by omega) (by rw [Nat.zero_add, show w.length + 1 - a = w.length - a + 1 from by omega]; exact htot)
    rw [Nat.zero_add, show w.length + 1 - a = w.length - a + 1 from by omega] at h0
    refine Ev.step (fun k => ?_) h0
    simp only [spec_shCount.f]
    rw [if_neg c1]
    rfl
theorem same_ev (p : Nat) (hp : p ≤ 5) : Ev (fun k => spec_shSame.f k (p : Int)) (List.replicate p 1) := by
  have h : ∀ (q : Nat) (out : List Int), q ≤ 5 → out.length + q ≤ 5 → Ev (fun k => spec_shSame.l0 k (q : Int) out) (out ++ List.replicate q 1) := by
    intro q
    induction q with
    | zero =>
      intro out _ _
      refine Ev.step (f := fun _ => some out) (fun k => ?_) (Ev.const (by simp))
      simp only [spec_shSame.l0]
      rw [if_neg (by omega)]
    | succ q ih =>
      intro out hq ho
      have h1 := ih (out ++ [1]) (by omega) (by rw [List.length_append, List.length_singleton]; omega)
      have c1 : ((q + 1 : Nat) : Int) > 0 := by omega
      have c2 : out.length < 17592186044416 := by omega
      rw [List.append_assoc, List.singleton_append, ← List.replicate_succ] at h1
      refine Ev.step (fun k => ?_) h1
      simp only [spec_shSame.l0]
      rw [if_pos c1, if_pos c2, wpred (q + 1) (by omega) (by omega)]
      rfl
  have := h p [] hp (by simpa using hp)
  simpa [spec_shSame.f] using this

end Go.Proofs.Ytcnancjkajbldaa.M
