/- For all texts ColoursOf gives the reference's answer: the plain part. -/
import Derived.Test.YtoiondajpccobaaPx8
import Derived.Test.YtoiondajpccobaaPx9
import Derived.Test.YtoiondajpccobaaMBase
import Derived.Test.YtoiondajpccobaaMFence
namespace Go.Proofs.Ytoiondajpccobaa.Pure
open Go.RowKit Go.Proofs.Ytoiondajpccobaa.P Go.Proofs.YtoiondajpccobaaW.PrintWords Go.Proofs.Ytoiondajpccobaa.M
set_option linter.unusedVariables false
set_option linter.unusedSimpArgs false

theorem law_of (a : ByteArray) (r0 : ByteArray) (r1 : Bool) (hb_a : ¬ ((a.size : Int) > 1048576)) (hs : Ev (fun k => spec_ColoursOf.f k a) (r0, r1)) (hi : Ev (fun k => impl_ColoursOf.f k a) (r0, r1)) : Ev (fun k => laws_FnExactColoursOf.f k a) true := by
  unfold laws_FnExactColoursOf.f
  repeat (first
    | exact Ev.now _
    | (with_reducible refine Ev.bind hs ?_)
    | (with_reducible refine Ev.bind hi ?_)
    | simp only [if_true, if_false, bne_self_eq_false, Bool.false_eq_true, Option.bind_some, hb_a]
    )

theorem ext_one (s : ByteArray) (i : Nat) (h : i < s.size) : s.extract i (i + 1) = ⟨#[s[i]]⟩ := by
  have hd : i < s.data.size := h
  apply ByteArray.ext
  rw [ByteArray.data_extract]
  apply Array.ext
  · rw [Array.size_extract]
    show min (i + 1) s.data.size - i = 1
    omega
  · intro j h1 h2
    have hj : j = 0 := by
      have : j < 1 := h2
      omega
    subst hj
    rw [Array.getElem_extract]
    rfl
theorem bt_get (s : ByteArray) (i : Nat) (h : i < s.size) : bt s (i : Int) = ((s[i]).toNat : Int) := by
  unfold bt
  rw [dif_pos (show (i : Int).toNat < s.size from h)]
  rfl
def col (n : Nat) : UInt8 := (97 + n).toUInt8
theorem col_nat (n : Nat) (h : n < 5) : (col n).toNat = 97 + n := by
  show (97 + n) % 256 = 97 + n
  omega
theorem abc_ext : ∀ n : Fin 5, (⟨#[97, 98, 99, 100, 101]⟩ : ByteArray).extract n.val (n.val + 1) = ⟨#[col n.val]⟩ := by decide +kernel
theorem has_index (l : List UInt8) (c : UInt8) : decide (0 ≤ Lib.indexByte l c) = l.contains c := by
  induction l with
  | nil => rfl
  | cons b l ih =>
    have hge := Lib.indexByte_ge l c
    rw [List.contains_cons, ← ih]
    rw [show Lib.indexByte (b :: l) c = (if b == c then 0 else if Lib.indexByte l c == -1 then -1 else Lib.indexByte l c + 1) from rfl]
    generalize Lib.indexByte l c = q at hge ⊢
    by_cases h : b = c
    · subst h
      simp
    · have h1 : (b == c) = false := by simpa using h
      have h2 : (c == b) = false := by simpa using fun e => h e.symm
      rw [h1, h2, Bool.false_or]
      simp only [Bool.false_eq_true, if_false]
      by_cases h3 : q = -1
      · simp [h3]
      · have h4 : (q == -1) = false := by simpa using h3
        rw [h4]
        simp only [Bool.false_eq_true, if_false]
        rw [decide_eq_decide]
        omega
theorem contains_f (s : ByteArray) (c : UInt8) : strings_Contains.f s ⟨#[c]⟩ = some (s.data.toList.contains c) := by
  unfold strings_Contains.f
  rw [if_pos (by rfl), ← has_index]
  have : (bt ⟨#[c]⟩ 0).toNat.toUInt8 = c := by
    show (((c.toNat : Int)).toNat).toUInt8 = c
    simp
  rw [this]
theorem scan (s : ByteArray) (hs : s.size ≤ 20) (n : Nat) (hn : n < 5) (out : ByteArray) (ho : out.size ≤ 1000) (r : ByteArray × Bool) (d : Nat) : ∀ i : Nat, i ≤ s.size → s.size - i = d → Ev (fun k => spec_ColoursOf.l0 k s (if (s.data.toList.drop i).contains (col n) = true then out ++ ⟨#[col n]⟩ else out) ((97 + (n + 1) : Nat) : Int)) r → Ev (fun k => spec_ColoursOf.l1 k s out ((97 + n : Nat) : Int) (i : Int)) r := by
  have hstep : (((97 + n : Nat) : Int) + 1) % 256 = ((97 + (n + 1) : Nat) : Int) := by omega
  have hdl : s.data.toList.length = s.size := by rw [Array.length_toList]; rfl
  induction d with
  | zero =>
    intro i hi hd h
    have c1 : ¬ ((i : Int) < (s.size : Int)) := by omega
    rw [List.drop_of_length_le (by omega)] at h
    refine Ev.step (fun k => ?_) h
    simp only [spec_ColoursOf.l1]
    rw [if_neg c1, hstep]
    rfl
  | succ d ih =>
    intro i hi hd h
    have hlt : i < s.size := by omega
    have c1 : (i : Int) < (s.size : Int) := by omega
    have c2 : (0 : Int) ≤ (i : Int) := by omega
    have c3 : (i : Int) ≤ ((i + 1 : Nat) : Int) := by omega
    have c4 : ((i + 1 : Nat) : Int) ≤ (s.size : Int) := by omega
    have i1 : i + 1 ≤ s.size := by omega
    have i2 : s.size - (i + 1) = d := by omega
    have hl : i < s.data.toList.length := by omega
    have hw : wrap64 ((i : Int) + 1) = ((i + 1 : Nat) : Int) := (congrArg wrap64 (show (i : Int) + 1 = ((i + 1 : Nat) : Int) from rfl)).trans (wrap_id (by omega) (by omega))
    have hb := bt_get s i hlt
    have he : s.data.toList[i] = s[i] := by rw [Array.getElem_toList]; rfl
    rw [List.drop_eq_getElem_cons hl, he, List.contains_cons] at h
    by_cases hq : s[i] = col n
    · have hc : bt s (i : Int) = ((97 + n : Nat) : Int) := by rw [hb, hq, col_nat n hn]
      have hone := ext_one s i hlt
      rw [hq] at hone
      have hsz : out.size + (⟨#[col n]⟩ : ByteArray).size ≤ 9223372036854775807 := by
        have : (⟨#[col n]⟩ : ByteArray).size = 1 := rfl
        rw [this]
        exact Nat.le_trans (Nat.succ_le_succ ho) (by decide)
      rw [hq, beq_self_eq_true, Bool.true_or, if_pos rfl] at h
      refine Ev.step (fun k => ?_) h
      simp only [spec_ColoursOf.l1]
      rw [hw, Int.toNat_natCast, Int.toNat_natCast, hone, if_pos c1, if_pos c2, if_pos hc, if_pos c3, if_pos c4, if_pos hsz, hstep]
    · have hc : ¬ bt s (i : Int) = ((97 + n : Nat) : Int) := by
        rw [hb, ← col_nat n hn]
        exact fun e => hq (UInt8.toNat_inj.1 (Int.ofNat_inj.1 e))
      have hbe : (col n == s[i]) = false := by simpa using fun e => hq e.symm
      rw [hbe, Bool.false_or] at h
      refine Ev.step (fun k => ?_) (ih (i + 1) i1 i2 h)
      simp only [spec_ColoursOf.l1]
      rw [if_pos c1, if_pos c2, if_neg hc, hw]
theorem loops (s : ByteArray) (hs : s.size ≤ 20) (d : Nat) : ∀ (n : Nat) (out : ByteArray), n ≤ 5 → 5 - n = d → out.size ≤ n → ∃ r : ByteArray, r.size ≤ 5 ∧ Ev (fun k => spec_ColoursOf.l0 k s out ((97 + n : Nat) : Int)) (r, true) ∧ Ev (fun k => impl_ColoursOf.l0 k s out (n : Int)) (r, true) := by
  induction d with
  | zero =>
    intro n out hn hd ho
    have c1 : ¬ (((97 + n : Nat) : Int) ≤ 101) := by omega
    have c2 : ¬ ((n : Int) < 5) := by omega
    refine ⟨out, by omega, Ev.step (f := fun _ => some _) (fun k => ?_) (Ev.now _), Ev.step (f := fun _ => some _) (fun k => ?_) (Ev.now _)⟩
    · simp only [spec_ColoursOf.l0]
      rw [if_neg c1]
    · simp only [impl_ColoursOf.l0]
      rw [if_neg c2]
  | succ d ih =>
    intro n out hn hd ho
    have hlt : n < 5 := by omega
    have c1 : ((97 + n : Nat) : Int) ≤ 101 := by omega
    have c2 : (n : Int) < 5 := by omega
    have c3 : (0 : Int) ≤ (n : Int) := by omega
    have c4 : (n : Int) ≤ ((n + 1 : Nat) : Int) := by omega
    have c5 : ((n + 1 : Nat) : Int) ≤ 5 := by omega
    have i1 : n + 1 ≤ 5 := by omega
    have i2 : 5 - (n + 1) = d := by omega
    have ho2 : out.size ≤ 1000 := by omega
    have ho3 : out.size ≤ n + 1 := by omega
    have hsz : out.size + (⟨#[col n]⟩ : ByteArray).size ≤ n + 1 := by
      have : (⟨#[col n]⟩ : ByteArray).size = 1 := rfl
      omega
    have hsz2 : out.size + (⟨#[col n]⟩ : ByteArray).size ≤ 9223372036854775807 := Nat.le_trans hsz (Nat.le_trans i1 (by decide))
    have hw : wrap64 ((n : Int) + 1) = ((n + 1 : Nat) : Int) := (congrArg wrap64 (show (n : Int) + 1 = ((n + 1 : Nat) : Int) from rfl)).trans (wrap_id (by omega) (by omega))
    have hx := abc_ext ⟨n, hlt⟩
    have hf := contains_f s (col n)
    cases hb : s.data.toList.contains (col n) with
    | true =>
      rw [hb] at hf
      obtain ⟨r, hr, e1, e2⟩ := ih (n + 1) (out ++ ⟨#[col n]⟩) i1 i2 (by rw [ByteArray.size_append]; exact hsz)
      have e3 := scan s hs n hlt out ho2 (r, true) _ 0 (Nat.zero_le _) rfl (by rw [List.drop_zero, hb, if_pos rfl]; exact e1)
      refine ⟨r, hr, Ev.step (fun k => ?_) e3, Ev.step (fun k => ?_) e2⟩
      · simp only [spec_ColoursOf.l0]
        rw [if_pos c1]
        rfl
      · simp only [impl_ColoursOf.l0]
        rw [hw, Int.toNat_natCast, Int.toNat_natCast, if_pos c2, if_pos c3, if_pos c4, if_pos c5, hx, hf]
        simp only [Option.bind_some, if_true, hsz2]
    | false =>
      rw [hb] at hf
      obtain ⟨r, hr, e1, e2⟩ := ih (n + 1) out i1 i2 ho3
      have e3 := scan s hs n hlt out ho2 (r, true) _ 0 (Nat.zero_le _) rfl (by rw [List.drop_zero, hb, if_neg Bool.false_ne_true]; exact e1)
      refine ⟨r, hr, Ev.step (fun k => ?_) e3, Ev.step (fun k => ?_) e2⟩
      · simp only [spec_ColoursOf.l0]
        rw [if_pos c1]
        rfl
      · simp only [impl_ColoursOf.l0]
        rw [hw, Int.toNat_natCast, Int.toNat_natCast, if_pos c2, if_pos c3, if_pos c4, if_pos c5, hx, hf]
        simp only [Option.bind_some, Bool.false_eq_true, if_false]
theorem FnExactColoursOf : laws_FnExactColoursOf.Pure := by
  intro a _
  refine Ev.rounds ?_
  by_cases ha : (a.size : Int) > 1048576
  · unfold laws_FnExactColoursOf.f
    simp only [ha, if_true]; exact Ev.now _
  have h1 := stGood_ev a
  have h2 := isFence_f a
  cases ka : fenceB a
  · rw [ka] at h1 h2
    refine law_of a ⟨#[]⟩ false ha ?_ ?_
    · unfold spec_ColoursOf.f
      exact Ev.bind h1 (Ev.now _)
    · unfold impl_ColoursOf.f
      rw [h2]
      exact Ev.now _
  · rw [ka] at h1 h2
    have sa := fence_size ka
    obtain ⟨r, hr, e1, e2⟩ := loops a (by omega) _ 0 ⟨#[]⟩ (Nat.zero_le _) rfl (Nat.le_refl _)
    refine law_of a r true ha ?_ ?_
    · unfold spec_ColoursOf.f
      refine Ev.bind h1 ?_
      simp only [if_true]
      exact e1
    · unfold impl_ColoursOf.f
      rw [h2]
      simp only [Option.bind_some, if_true]
      exact e2

end Go.Proofs.Ytoiondajpccobaa.Pure
