/- What the laws' own helpers on lists of strokes come to. -/
import Derived.Test.YtoiondajpccobaaPx0
import Derived.Test.YtoiondajpccobaaPx13
import Derived.Test.YtoiondajpccobaaPx14
import Derived.Test.YtoiondajpccobaaPx15
import Derived.Test.YtoiondajpccobaaPx16
import Derived.Test.YtoiondajpccobaaMBase
namespace Go.Proofs.Ytoiondajpccobaa.M
open Go.RowKit Go.Proofs.Ytoiondajpccobaa.P Go.Proofs.YtoiondajpccobaaW.PrintWords Go.Proofs.Ytoiondajpccobaa.M
set_option linter.unusedVariables false
set_option linter.unusedSimpArgs false

theorem eqStroke_same (x : S52) : laws_eqStroke.f x.f0 x.f1 x.f2 x.f0 x.f1 x.f2 = some true := by
  unfold laws_eqStroke.f
  rw [if_pos rfl, if_pos rfl, if_pos rfl]
theorem eqStrokeS_l0 (l : List S52) (hl : l.length ≤ 100000) (d : Nat) : ∀ i : Nat, i ≤ l.length → l.length - i = d → Ev (fun k => laws_eqStrokeS.l0 k l l (i : Int)) true := by
  induction d with
  | zero =>
    intro i hi hd
    refine Ev.step (f := fun _ => some true) (fun k => ?_) (Ev.now true)
    simp only [laws_eqStrokeS.l0]
    rw [if_neg (by omega)]
  | succ d ih =>
    intro i hi hd
    refine Ev.step (fun k => ?_) (ih (i + 1) (by omega) (by omega))
    simp only [laws_eqStrokeS.l0]
    rw [if_pos (by omega), if_pos (by omega), if_pos (by omega), eqStroke_same, Option.bind_some, if_pos rfl, wrap_id (by omega) (by omega)]
    rfl
theorem eqStrokeS_same (l : List S52) (hl : l.length ≤ 100000) : Ev (fun k => laws_eqStrokeS.f k l l) true := by
  unfold laws_eqStrokeS.f
  simp only [if_true]
  exact eqStrokeS_l0 l hl _ 0 (Nat.zero_le _) rfl
def tx (n : Nat) : ByteArray := (laws_markText.f 10 (n : Int)).getD ⟨#[]⟩
theorem tx_some : ∀ n : Fin 200, (laws_markText.f 10 (n.val : Int)).isSome = true := by decide +kernel
theorem tx_ev (n : Nat) (h : n < 200) : Ev (fun k => laws_markText.f k (n : Int)) (tx n) := by
  refine Ev.of (fun k => laws_markText.mono _ k) (k := 10) ?_
  have := tx_some ⟨n, h⟩
  unfold tx
  cases e : laws_markText.f 10 (n : Int) with
  | none => simp only [e] at this; cases this
  | some t => rfl
def ms (j : Nat) : S52 := ⟨(3 * (j : Int) + 1), (3 * (j : Int) + 2), tx (3 * j + 3)⟩
def markS (n : Nat) : List S52 := (List.range n).map ms
theorem markS_length (n : Nat) : (markS n).length = n := by simp [markS]
theorem rd_markS (n i : Nat) (h : i < n) : rd_T52 (markS n) (i : Int) = ms i := by
  show (markS n).getD i z52 = ms i
  rw [List.getD_eq_getElem?_getD, List.getElem?_eq_getElem (by rw [markS_length]; exact h)]
  simp [markS]
def upS (l : List S52) (i : Nat) : List S52 := markS i ++ l.drop i
theorem upS_length (l : List S52) (i : Nat) (h : i ≤ l.length) : (upS l i).length = l.length := by simp [upS, markS_length]; omega
theorem upS_set (l : List S52) (i : Nat) (h : i < l.length) : (upS l i).set i (ms i) = upS l (i + 1) := by
  unfold upS
  rw [List.set_append, if_neg (by rw [markS_length]; omega), markS_length, Nat.sub_self]
  rw [List.drop_eq_getElem_cons h, List.set_cons_zero]
  have : markS (i + 1) = markS i ++ [ms i] := by simp [markS, List.range_succ]
  rw [this, List.append_assoc]; rfl
theorem rd_set (l : List S52) (i : Nat) (h : i < l.length) (x : S52) : rd_T52 (l.set i x) (i : Int) = x := by
  show (l.set i x).getD i z52 = x
  rw [List.getD_eq_getElem?_getD, List.getElem?_set_self h]; rfl
theorem markStrokeS_l0 (l : List S52) (hl : l.length ≤ 60) (d : Nat) : ∀ i : Nat, i ≤ l.length → l.length - i = d → Ev (fun k => laws_markStrokeS.l0 k (upS l i) (3 * (i : Int) + 1) (i : Int)) (3 * (l.length : Int) + 1, markS l.length) := by
  induction d with
  | zero =>
    intro i hi hd
    have e : i = l.length := by omega
    subst e
    refine Ev.step (f := fun _ => some _) (fun k => ?_) (Ev.now _)
    simp only [laws_markStrokeS.l0]
    rw [if_neg (by rw [upS_length _ _ hi]; omega)]
    simp [upS]
  | succ d ih =>
    intro i hi hd
    have hil : i < l.length := by omega
    have hlen := upS_length l i hi
    have c1 : (i : Int) < ((upS l i).length : Int) := by omega
    have c2 : 0 ≤ (i : Int) := by omega
    have w1 : wrap64 (3 * (i : Int) + 1 + 1) = 3 * (i : Int) + 2 := by rw [wrap_id (by omega) (by omega)]; omega
    have w2 : wrap64 (3 * (i : Int) + 2 + 1) = ((3 * i + 3 : Nat) : Int) := by rw [wrap_id (by omega) (by omega)]; omega
    have w3 : wrap64 (((3 * i + 3 : Nat) : Int) + 1) = 3 * ((i + 1 : Nat) : Int) + 1 := by rw [wrap_id (by omega) (by omega)]; omega
    have w4 : wrap64 ((i : Int) + 1) = ((i + 1 : Nat) : Int) := by rw [wrap_id (by omega) (by omega)]; rfl
    refine Ev.step (f := fun k => (laws_markText.f k ((3 * i + 3 : Nat) : Int)).bind fun t => laws_markStrokeS.l0 k ((upS l i).set i ⟨3 * (i : Int) + 1, 3 * (i : Int) + 2, t⟩) (3 * ((i + 1 : Nat) : Int) + 1) ((i + 1 : Nat) : Int)) (fun k => ?_) (Ev.bind (tx_ev (3 * i + 3) (by omega)) ?_)
    · simp only [laws_markStrokeS.l0]
      rw [if_pos c1, if_pos c2, Option.bind_some, Option.bind_some, w1, w2, w3, w4, Int.toNat_natCast]
      congr 1
      funext t
      have hi1 : i < (upS l i).length := by rw [hlen]; exact hil
      simp only [rd_set _ _ hi1, List.set_set]
    · have h := ih (i + 1) (by omega) (by omega)
      rw [← upS_set l i hil] at h
      exact h
theorem markStrokeS_ev (l : List S52) (hl : l.length ≤ 60) : Ev (fun k => laws_markStrokeS.f k l 1) (3 * (l.length : Int) + 1, markS l.length) := by
  have := markStrokeS_l0 l hl _ 0 (Nat.zero_le _) rfl
  simpa [laws_markStrokeS.f, upS, markS] using this
theorem heldStrokeS_l0 (n : Nat) (hl : n ≤ 60) (d : Nat) : ∀ i : Nat, i ≤ n → n - i = d → Ev (fun k => laws_heldStrokeS.l0 k (markS n) (3 * (i : Int) + 1) (i : Int)) (3 * (n : Int) + 1) := by
  induction d with
  | zero =>
    intro i hi hd
    have e : i = n := by omega
    subst e
    refine Ev.step (f := fun _ => some _) (fun k => ?_) (Ev.now _)
    simp only [laws_heldStrokeS.l0]
    rw [if_neg (by rw [markS_length]; omega)]
  | succ d ih =>
    intro i hi hd
    have c1 : (i : Int) < ((markS n).length : Int) := by rw [markS_length]; omega
    have c2 : 0 ≤ (i : Int) := by omega
    have w1 : wrap64 (3 * (i : Int) + 1 + 1) = 3 * (i : Int) + 2 := by rw [wrap_id (by omega) (by omega)]; omega
    have w2 : wrap64 (3 * (i : Int) + 2 + 1) = ((3 * i + 3 : Nat) : Int) := by rw [wrap_id (by omega) (by omega)]; omega
    have w3 : wrap64 (((3 * i + 3 : Nat) : Int) + 1) = 3 * ((i + 1 : Nat) : Int) + 1 := by rw [wrap_id (by omega) (by omega)]; omega
    have w4 : wrap64 ((i : Int) + 1) = ((i + 1 : Nat) : Int) := by rw [wrap_id (by omega) (by omega)]; rfl
    have hrd := rd_markS n i (by omega)
    have q0 : (ms i).f0 = 3 * (i : Int) + 1 := rfl
    have q1 : (ms i).f1 = 3 * (i : Int) + 2 := rfl
    have q2 : (ms i).f2 = tx (3 * i + 3) := rfl
    refine Ev.step (f := fun k => (laws_markText.f k ((3 * i + 3 : Nat) : Int)).bind fun t => if (tx (3 * i + 3)).toList = t.toList then laws_heldStrokeS.l0 k (markS n) (3 * ((i + 1 : Nat) : Int) + 1) ((i + 1 : Nat) : Int) else some (-1)) (fun k => ?_) (Ev.bind (tx_ev (3 * i + 3) (by omega)) ?_)
    · simp only [laws_heldStrokeS.l0]
      rw [if_pos c1, if_pos c2, hrd, q0, q1, q2, if_pos rfl, w1, if_pos rfl, w2, w3, w4]
    · simp only [if_true]
      exact ih (i + 1) (by omega) (by omega)
theorem heldStrokeS_ev (n : Nat) (hl : n ≤ 60) : Ev (fun k => laws_heldStrokeS.f k (markS n) 1) (3 * (n : Int) + 1) := by
  have := heldStrokeS_l0 n hl _ 0 (Nat.zero_le _) rfl
  simpa [laws_heldStrokeS.f] using this

end Go.Proofs.Ytoiondajpccobaa.M
