/- What the laws' own helpers on lists of whole numbers come to. -/
import Derived.Test.YtcnancjkajbldaaPx11
import Derived.Test.YtcnancjkajbldaaPx8
import Derived.Test.YtcnancjkajbldaaMBase
namespace Go.Proofs.Ytcnancjkajbldaa.M
open Go.RowKit Go.Proofs.Ytcnancjkajbldaa.P Go.Proofs.YtcnancjkajbldaaW.PrintWords Go.Proofs.Ytcnancjkajbldaa.M
set_option linter.unusedVariables false
set_option linter.unusedSimpArgs false

theorem eqIntS_l0 (l : List Int) (hl : l.length ≤ 4611686018427387904) (d : Nat) : ∀ i : Nat, i ≤ l.length → l.length - i = d → Ev (fun k => laws_eqIntS.l0 k l l (i : Int)) true := by
  induction d with
  | zero =>
    intro i hi hd
    refine Ev.step (f := fun _ => some true) (fun k => ?_) (Ev.now true)
    simp only [laws_eqIntS.l0]
    rw [if_neg (by omega)]
  | succ d ih =>
    intro i hi hd
    refine Ev.step (fun k => ?_) (ih (i + 1) (by omega) (by omega))
    simp only [laws_eqIntS.l0]
    rw [if_pos (by omega), if_pos (by omega), if_pos (by omega), if_pos True.intro, wrap_id (by omega) (by omega)]
    rfl
theorem eqIntS_same (l : List Int) (hl : l.length ≤ 4611686018427387904) : Ev (fun k => laws_eqIntS.f k l l) true := by
  unfold laws_eqIntS.f
  simp only [if_true]
  exact eqIntS_l0 l hl _ 0 (Nat.zero_le _) rfl
def marked (n : Nat) : List Int := (List.range n).map fun i : Nat => ((i : Int) + 1)
theorem marked_length (n : Nat) : (marked n).length = n := by simp [marked]
theorem rd_marked (n i : Nat) (h : i < n) : rd (marked n) (i : Int) = (i : Int) + 1 := by
  rw [rd_get _ _ (by rw [marked_length]; exact h)]
  simp [marked]
/-- The first i marked, the others as they were. -/
def markUp (l : List Int) (i : Nat) : List Int := marked i ++ l.drop i
theorem markUp_length (l : List Int) (i : Nat) (h : i ≤ l.length) : (markUp l i).length = l.length := by simp [markUp, marked_length]; omega
theorem markUp_set (l : List Int) (i : Nat) (h : i < l.length) : (markUp l i).set i ((i : Int) + 1) = markUp l (i + 1) := by
  unfold markUp
  rw [List.set_append, if_neg (by rw [marked_length]; omega), marked_length, Nat.sub_self]
  rw [List.drop_eq_getElem_cons h, List.set_cons_zero]
  have : marked (i + 1) = marked i ++ [(i : Int) + 1] := by simp [marked, List.range_succ]
  rw [this, List.append_assoc]; rfl
theorem markIntS_l0 (l : List Int) (hl : l.length ≤ 4611686018427387904) (d : Nat) : ∀ i : Nat, i ≤ l.length → l.length - i = d → Ev (fun k => laws_markIntS.l0 k (markUp l i) ((i : Int) + 1) (i : Int)) ((l.length : Int) + 1, marked l.length) := by
  induction d with
  | zero =>
    intro i hi hd
    have e : i = l.length := by omega
    subst e
    refine Ev.step (f := fun _ => some _) (fun k => ?_) (Ev.now _)
    simp only [laws_markIntS.l0]
    rw [if_neg (by rw [markUp_length _ _ hi]; omega)]
    simp [markUp]
  | succ d ih =>
    intro i hi hd
    refine Ev.step (fun k => ?_) (ih (i + 1) (by omega) (by omega))
    simp only [laws_markIntS.l0]
    rw [if_pos (by rw [markUp_length _ _ hi]; omega), if_pos (by omega), wrap_id (by omega) (by omega), wrap_id (by omega) (by omega), Int.toNat_natCast, markUp_set _ _ (by omega)]
    rfl
theorem markIntS_ev (l : List Int) (hl : l.length ≤ 4611686018427387904) : Ev (fun k => laws_markIntS.f k l 1) ((l.length : Int) + 1, marked l.length) := by
  have := markIntS_l0 l hl _ 0 (Nat.zero_le _) rfl
  simpa [laws_markIntS.f, markUp, marked] using this
theorem heldIntS_l0 (n : Nat) (hl : n ≤ 4611686018427387904) (d : Nat) : ∀ i : Nat, i ≤ n → n - i = d → Ev (fun k => laws_heldIntS.l0 k (marked n) ((i : Int) + 1) (i : Int)) ((n : Int) + 1) := by
  induction d with
  | zero =>
    intro i hi hd
    have e : i = n := by omega
    subst e
    refine Ev.step (f := fun _ => some _) (fun k => ?_) (Ev.now _)
    simp only [laws_heldIntS.l0]
    rw [if_neg (by rw [marked_length]; omega)]
  | succ d ih =>
    intro i hi hd
    refine Ev.step (fun k => ?_) (ih (i + 1) (by omega) (by omega))
    simp only [laws_heldIntS.l0]
    rw [if_pos (by rw [marked_length]; omega), if_pos (by omega), if_pos (rd_marked n i (by omega)), wrap_id (by omega) (by omega), wrap_id (by omega) (by omega)]
    rfl
theorem heldIntS_ev (n : Nat) (hl : n ≤ 4611686018427387904) : Ev (fun k => laws_heldIntS.f k (marked n) 1) ((n : Int) + 1) := by
  have := heldIntS_l0 n hl _ 0 (Nat.zero_le _) rfl
  simpa [laws_heldIntS.f] using this
/-- Marks from any number on: what is handed back. -/
theorem markIntS_from (d : Nat) : ∀ (l : List Int) (k0 : Int) (i : Nat), 0 ≤ k0 → k0 ≤ 4611686018427387904 + (i : Int) → l.length ≤ 1000000000 → i ≤ l.length → l.length - i = d → ∃ l' : List Int, Ev (fun k => laws_markIntS.l0 k l k0 (i : Int)) (k0 + ((l.length - i : Nat) : Int), l') := by
  induction d with
  | zero =>
    intro l k0 i h0 h1 hl hi hd
    refine ⟨l, Ev.step (f := fun _ => some _) (fun k => ?_) (Ev.now _)⟩
    simp only [laws_markIntS.l0]
    rw [if_neg (by omega), hd]
    simp
  | succ d ih =>
    intro l k0 i h0 h1 hl hi hd
    obtain ⟨l', h⟩ := ih (l.set i k0) (k0 + 1) (i + 1) (by omega) (by omega) (by simp; omega) (by simp; omega) (by simp; omega)
    refine ⟨l', Ev.step (fun k => ?_) (evTo ?_ h)⟩
    · simp only [laws_markIntS.l0]
      rw [if_pos (by omega), if_pos (by omega), wrap_id (by omega) (by omega), wrap_id (by omega) (by omega), Int.toNat_natCast]
      rfl
    · rw [List.length_set]
      congr 1
      omega
theorem markIntS_any (l : List Int) (k0 : Int) (h0 : 0 ≤ k0) (h1 : k0 ≤ 4611686018427387904) (hl : l.length ≤ 1000000000) : ∃ l' : List Int, Ev (fun k => laws_markIntS.f k l k0) (k0 + (l.length : Int), l') := markIntS_from _ l k0 0 h0 (by omega) hl (Nat.zero_le _) rfl

end Go.Proofs.Ytcnancjkajbldaa.M
