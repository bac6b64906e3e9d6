-- Printed by wip/pp.py of this claim's session (the kit's print over functions that are given by hand). Not trusted: Lean checks it.
import Derived.Test.YtoiondajpccobaaPx0
import Derived.Test.YtoiondajpccobaaPx1
namespace Go.Proofs.Ytoiondajpccobaa.P
open Go.RowKit Go.Proofs.YtoiondajpccobaaW.PrintWords Go.Proofs.YtoiondajpccobaaW.PrintLast Go.Proofs.YtoiondajpccobaaW.PrintMore
attribute [local go_sem] max2_int min2_int max_two min_two max_three min_three max_four min_four   -- for this text's walks alone
set_option linter.unusedVariables false
set_option linter.unusedSimpArgs false

/-! ### spec_ColoursOf: function 25 -/
mutual
def spec_ColoursOf.l0 : Nat → ByteArray → ByteArray → Int → Option (ByteArray × Bool)
  | 0, _, _, _ => none
  | k + 1, x0, x4, x5 => if x5 ≤ 101 then (spec_ColoursOf.l1 k x0 x4 x5 0) else (some (x4, true))
def spec_ColoursOf.l1 : Nat → ByteArray → ByteArray → Int → Int → Option (ByteArray × Bool)
  | 0, _, _, _, _ => none
  | k + 1, x0, x4, x5, x6 => if x6 < (x0.size : Int) then (if 0 ≤ x6 then (if (bt x0 x6) = x5 then (if x6 ≤ (wrap64 (x6 + 1)) then (if (wrap64 (x6 + 1)) ≤ (x0.size : Int) then (if x4.size + (x0.extract (x6 : Int).toNat ((wrap64 (x6 + 1)) : Int).toNat).size ≤ 9223372036854775807 then (spec_ColoursOf.l0 k x0 (x4 ++ (x0.extract (x6 : Int).toNat ((wrap64 (x6 + 1)) : Int).toNat)) ((x5 + 1) % 256)) else (none)) else (none)) else (none)) else (spec_ColoursOf.l1 k x0 x4 x5 (wrap64 (x6 + 1)))) else (none)) else (spec_ColoursOf.l0 k x0 x4 ((x5 + 1) % 256))
end
def spec_ColoursOf.f (k : Nat) (a0 : ByteArray) : Option (ByteArray × Bool) := (spec_stGood.f k a0).bind fun t166 => (if t166 = true then (spec_ColoursOf.l0 k a0 (⟨#[]⟩ : ByteArray) 97) else (some ((⟨#[]⟩ : ByteArray), false)))
theorem spec_ColoursOf.mono_l : ∀ k, (∀ y0 y1 y2, LeO (spec_ColoursOf.l0 k y0 y1 y2) (spec_ColoursOf.l0 (k + 1) y0 y1 y2)) ∧ (∀ y0 y1 y2 y3, LeO (spec_ColoursOf.l1 k y0 y1 y2 y3) (spec_ColoursOf.l1 (k + 1) y0 y1 y2 y3))
  | 0 => ⟨fun _ _ _ r h => by simp [spec_ColoursOf.l0] at h, fun _ _ _ _ r h => by simp [spec_ColoursOf.l1] at h⟩
  | k + 1 => by
    obtain ⟨ih0, ih1⟩ := spec_ColoursOf.mono_l k
    refine ⟨?_, ?_⟩
    · intro y0 y1 y2
      unfold spec_ColoursOf.l0
      repeat' first
      | (with_reducible exact ih0 _ _ _)
      | (with_reducible exact ih1 _ _ _ _)
      | (with_reducible exact spec_stGood.mono _ _)
      | (with_reducible exact LeO.refl _)
      | (with_reducible exact LeO.none _)
      | (with_reducible refine LeO.ite ?_ ?_)
      | (with_reducible refine LeO.bind ?_ (fun _ => ?_))
      | exact ih0 _ _ _
      | exact ih1 _ _ _ _
      | exact spec_stGood.mono _ _
      | exact LeO.none _
      | refine LeO.ite ?_ ?_
      | refine LeO.bind ?_ (fun _ => ?_)
    · intro y0 y1 y2 y3
      unfold spec_ColoursOf.l1
      repeat' first
      | (with_reducible exact ih0 _ _ _)
      | (with_reducible exact ih1 _ _ _ _)
      | (with_reducible exact spec_stGood.mono _ _)
      | (with_reducible exact LeO.refl _)
      | (with_reducible exact LeO.none _)
      | (with_reducible refine LeO.ite ?_ ?_)
      | (with_reducible refine LeO.bind ?_ (fun _ => ?_))
      | exact ih0 _ _ _
      | exact ih1 _ _ _ _
      | exact spec_stGood.mono _ _
      | exact LeO.none _
      | refine LeO.ite ?_ ?_
      | refine LeO.bind ?_ (fun _ => ?_)
theorem spec_ColoursOf.mono : ∀ a0 k, LeO (spec_ColoursOf.f k a0) (spec_ColoursOf.f (k + 1) a0) := by
  intro a0 k
  obtain ⟨ih0, ih1⟩ := spec_ColoursOf.mono_l k
  unfold spec_ColoursOf.f
  repeat' first
      | (with_reducible exact ih0 _ _ _)
      | (with_reducible exact ih1 _ _ _ _)
      | (with_reducible exact spec_stGood.mono _ _)
      | (with_reducible exact LeO.refl _)
      | (with_reducible exact LeO.none _)
      | (with_reducible refine LeO.ite ?_ ?_)
      | (with_reducible refine LeO.bind ?_ (fun _ => ?_))
      | exact ih0 _ _ _
      | exact ih1 _ _ _ _
      | exact spec_stGood.mono _ _
      | exact LeO.none _
      | refine LeO.ite ?_ ?_
      | refine LeO.bind ?_ (fun _ => ?_)
set_option maxHeartbeats 8000000 in
set_option maxRecDepth 100000 in
theorem spec_ColoursOf.calls (k : Nat) (a0 : ByteArray) (r1 : ByteArray) (r2 : Bool) (w : World) (h : spec_ColoursOf.f k a0 = some (r1, r2)) :
    Calls Try.prog 25 #[.string a0] w fun e w' => e = .returned (.tuple #[.string r1, .bool r2]) ∧ Drawn0 w w' := by
  have H : ((spec_stGood.f k a0).bind fun t166 => (if t166 = true then (spec_ColoursOf.l0 k a0 (⟨#[]⟩ : ByteArray) 97) else (some ((⟨#[]⟩ : ByteArray), false)))) = some (r1, r2) := h
  clear h
  replace H := Option.bind_eq_some_iff.mp H
  obtain ⟨t166, A20, H⟩ := H
  replace H : (if t166 = true then (spec_ColoursOf.l0 k a0 (⟨#[]⟩ : ByteArray) 97) else (some ((⟨#[]⟩ : ByteArray), false))) = some (r1, r2) := H
  have A2 := Aside0.mk A20
  clear A20
  by_cases c3 : t166 = true
  · subst c3
    have H1 : (spec_ColoursOf.l0 k a0 (⟨#[]⟩ : ByteArray) 97) = some (r1, r2) := by rw [if_pos rfl] at H; exact H
    clear H
    have H := H1
    clear H1
    have H' := Aside0.mk H
    clear H
    go_enter Try.func25, Try.ntmps25
    go_wp2_with (first | ((with_reducible refine gate_callee (f := 45) rfl ?_); refine goesL_ (some 8) rfl rfl Try.func45 (by kernel_rfl) rfl #[.string a0] rfl (by (try simp only [List.map_toArray, List.map_cons, List.map_nil]); first | done | rfl | (simp only [List.length_drop, List.length_take]; rfl)) ?_; (with_reducible refine (spec_stGood.calls k a0 true _ A2.out).mono ?_); rintro e w' ⟨rfl, ⟨nd, rfl⟩⟩; refine ⟨_, rfl, ?_⟩))
    go_loopg [4, 5] k (fun kq v4 v5 w' => ∃ (x4_1 : ByteArray) (x5_1 : Int), v4 = .string x4_1 ∧ v5 = .int .u8 x5_1 ∧ Aside0 (spec_ColoursOf.l0 kq a0 x4_1 x5_1 = some (r1, r2)) ∧ Aside0 (kq ≤ k) ∧ Drawn0 w w')
    case atStart => exact ⟨((⟨#[]⟩ : ByteArray)), (97), (by first | rfl | (simp; done) | (simp [*]; done)), (by first | rfl | (simp; done) | (simp [*]; done)), H', ⟨Nat.le_refl _⟩, by repeat (first | exact Drawn0.refl _ | apply Drawn0.step)⟩
    case round =>
      clear H'
      try clear c2
      try clear p2
      try clear c3
      obtain ⟨x4_1, x5_1, rfl, rfl, HA, HK1, ⟨m1, rfl⟩⟩ := hrel
      cases gk with
      | zero => exact absurd HA.out (by simp [spec_ColoursOf.l0])
      | succ k1 =>
        have H := HA.out
        clear HA
        simp only [spec_ColoursOf.l0] at H
        by_cases c4 : x5_1 ≤ 101
        · rw [if_pos c4] at H
          have c4b0 : decide (x5_1 ≤ 101) = true := decide_eq_true c4
          clear c4
          have H' := Aside0.mk H
          clear H
          go_wp2
          go_loopg [4, 6] k1 (fun kq v4 v6 w' => ∃ (x4_2 : ByteArray) (x6_2 : Int), v4 = .string x4_2 ∧ v6 = .int .i64 x6_2 ∧ Aside0 (spec_ColoursOf.l1 kq a0 x4_2 x5_1 x6_2 = some (r1, r2)) ∧ Aside0 (kq ≤ k1) ∧ Drawn0 w w')
          case atStart => exact ⟨(x4_1), (0), (by first | rfl | (simp; done) | (simp [*]; done)), (by first | rfl | (simp; done) | (simp [*]; done)), H', ⟨Nat.le_refl _⟩, by repeat (first | exact Drawn0.refl _ | apply Drawn0.step)⟩
          case round =>
            clear H'
            try clear c2
            try clear p2
            try clear c3
            try clear c4
            try clear c4b0
            try clear p2
            obtain ⟨x4_2, x6_2, rfl, rfl, HA, HK2, ⟨m2, rfl⟩⟩ := hrel
            cases gk with
            | zero => exact absurd HA.out (by simp [spec_ColoursOf.l1])
            | succ k2 =>
              have H := HA.out
              clear HA
              simp only [spec_ColoursOf.l1] at H
              by_cases c5 : x6_2 < (a0.size : Int)
              · rw [if_pos c5] at H
                have c5b0 : decide (x6_2 < (a0.size : Int)) = true := decide_eq_true c5
                clear c5
                by_cases c6 : 0 ≤ x6_2
                · rw [if_pos c6] at H
                  have c6b0 : decide (0 ≤ x6_2) = true := decide_eq_true c6
                  clear c6
                  by_cases c8 : (bt a0 x6_2) = x5_1
                  · rw [if_pos c8] at H
                    have c8b0 : ((bt a0 x6_2) == x5_1) = true := beq_iff_eq.mpr c8
                    have c8b1 : ((bt a0 x6_2) != x5_1) = false := bne_eq_false_iff_eq.mpr c8
                    clear c8
                    have c9b0 := eq_true (of_decide_eq_true (by first | (with_reducible assumption) | assumption) : 0 ≤ x6_2)
                    by_cases c10 : x6_2 ≤ (wrap64 (x6_2 + 1))
                    · rw [if_pos c10] at H
                      have c10b0 := eq_true c10
                      have c10b1 : decide (x6_2 ≤ (wrap64 (x6_2 + 1))) = true := decide_eq_true c10
                      by_cases c11 : (wrap64 (x6_2 + 1)) ≤ (a0.size : Int)
                      · rw [if_pos c11] at H
                        have c11b0 := eq_true c11
                        have c11b1 : decide ((wrap64 (x6_2 + 1)) ≤ (a0.size : Int)) = true := decide_eq_true c11
                        by_cases c12 : x4_2.size + (a0.extract (x6_2 : Int).toNat ((wrap64 (x6_2 + 1)) : Int).toNat).size ≤ 9223372036854775807
                        · rw [if_pos c12] at H
                          have c12b0 := eq_true c12
                          have c12b1 : decide (x4_2.size + (a0.extract (x6_2 : Int).toNat ((wrap64 (x6_2 + 1)) : Int).toNat).size ≤ 9223372036854775807) = true := decide_eq_true c12
                          try have c12b2 : (9223372036854775807 < x4_2.size + (a0.extract (x6_2 : Int).toNat ((wrap64 (x6_2 + 1)) : Int).toNat).size) = False := eq_false (Nat.not_lt.2 c12)
                          have H' := Aside0.mk H
                          clear H
                          have p7 : 0 ≤ (x6_2 : Int) := of_decide_eq_true (by first | (with_reducible assumption) | assumption)
                          have q7 : x6_2 < (a0.size : Int) := of_decide_eq_true (by first | (with_reducible assumption) | assumption)
                          have hx7 := bt_at a0 x6_2
                          replace p7 := eq_true p7
                          replace q7 := eq_true q7
                          go_wp2
                          go_roundg k2
                          case measure => have := HK1.out; have := HK2.out; omega
                          case rel => exact ⟨(x4_2 ++ (a0.extract (x6_2 : Int).toNat ((wrap64 (x6_2 + 1)) : Int).toNat)), ((x5_1 + 1) % 256), (by first | rfl | (simp; done) | (simp [*]; done)), (by first | rfl | (simp; done) | (simp [*]; done)), H', ⟨by have := HK1.out; have := HK2.out; omega⟩, by repeat (first | exact Drawn0.refl _ | apply Drawn0.step)⟩
                        · rw [if_neg c12] at H
                          exact absurd H (by simp)
                      · rw [if_neg c11] at H
                        exact absurd H (by simp)
                    · rw [if_neg c10] at H
                      exact absurd H (by simp)
                  · rw [if_neg c8] at H
                    have c8b0 : ((bt a0 x6_2) == x5_1) = false := beq_eq_false_iff_ne.mpr c8
                    have c8b1 : ((bt a0 x6_2) != x5_1) = true := bne_iff_ne.mpr c8
                    have H' := Aside0.mk H
                    clear H
                    have p7 : 0 ≤ (x6_2 : Int) := of_decide_eq_true (by first | (with_reducible assumption) | assumption)
                    have q7 : x6_2 < (a0.size : Int) := of_decide_eq_true (by first | (with_reducible assumption) | assumption)
                    have hx7 := bt_at a0 x6_2
                    replace p7 := eq_true p7
                    replace q7 := eq_true q7
                    go_wp2
                    go_roundg k2
                    case measure => have := HK1.out; have := HK2.out; omega
                    case rel => exact ⟨(x4_2), (wrap64 (x6_2 + 1)), (by first | rfl | (simp; done) | (simp [*]; done)), (by first | rfl | (simp; done) | (simp [*]; done)), H', ⟨by have := HK1.out; have := HK2.out; omega⟩, by repeat (first | exact Drawn0.refl _ | apply Drawn0.step)⟩
                · rw [if_neg c6] at H
                  exact absurd H (by simp)
              · rw [if_neg c5] at H
                have c5b0 : decide (x6_2 < (a0.size : Int)) = false := decide_eq_false c5
                clear c5
                have H' := Aside0.mk H
                clear H
                go_wp2
                go_roundg k2
                case measure => have := HK1.out; have := HK2.out; omega
                case rel => exact ⟨(x4_2), ((x5_1 + 1) % 256), (by first | rfl | (simp; done) | (simp [*]; done)), (by first | rfl | (simp; done) | (simp [*]; done)), H', ⟨by have := HK1.out; have := HK2.out; omega⟩, by repeat (first | exact Drawn0.refl _ | apply Drawn0.step)⟩
        · rw [if_neg c4] at H
          have c4b0 : decide (x5_1 ≤ 101) = false := decide_eq_false c4
          clear c4
          simp only [Option.some.injEq, Prod.mk.injEq] at H
          obtain ⟨rfl, rfl⟩ := H
          go_wp2
          go_ret2
          exact ⟨by first | rfl | (simp; done) | (simp [*]; done), by repeat (first | exact Drawn0.refl _ | apply Drawn0.step)⟩
  · replace c3 := Bool.eq_false_iff.mpr c3
    subst c3
    have H1 : (some ((⟨#[]⟩ : ByteArray), false)) = some (r1, r2) := by rw [if_neg (show ¬ (false = true) by decide)] at H; exact H
    clear H
    have H := H1
    clear H1
    simp only [Option.some.injEq, Prod.mk.injEq] at H
    obtain ⟨rfl, rfl⟩ := H
    go_enter Try.func25, Try.ntmps25
    go_wp2_with (first | ((with_reducible refine gate_callee (f := 45) rfl ?_); refine goesL_ (some 8) rfl rfl Try.func45 (by kernel_rfl) rfl #[.string a0] rfl (by (try simp only [List.map_toArray, List.map_cons, List.map_nil]); first | done | rfl | (simp only [List.length_drop, List.length_take]; rfl)) ?_; (with_reducible refine (spec_stGood.calls k a0 false _ A2.out).mono ?_); rintro e w' ⟨rfl, ⟨nd, rfl⟩⟩; refine ⟨_, rfl, ?_⟩))
    go_ret2
    exact ⟨by first | rfl | (simp; done) | (simp [*]; done), by repeat (first | exact Drawn0.refl _ | apply Drawn0.step)⟩

/-! ### strings_Contains: function 54 (given) -/
/-- Told for a text of one byte alone. -/
def strings_Contains.f (a0 a1 : ByteArray) : Option Bool := if a1.size = 1 then some (decide (0 ≤ Lib.indexByte a0.data.toList (bt a1 0).toNat.toUInt8)) else none
theorem strings_Contains.one (a1 : ByteArray) (h : a1.size = 1) : ∃ b : UInt8, a1 = ⟨#[b]⟩ ∧ (bt a1 0).toNat.toUInt8 = b := by
  obtain ⟨⟨l⟩⟩ := a1
  match l, h with
  | [b], _ =>
    refine ⟨b, rfl, ?_⟩
    show (((b.toNat : Int)).toNat).toUInt8 = b
    simp
theorem strings_Contains.toList_loop (s : ByteArray) (d : Nat) : ∀ (i : Nat) (r : List UInt8), s.size - i = d → ByteArray.toList.loop s i r = r.reverse ++ s.data.toList.drop i := by
  induction d with
  | zero =>
    intro i r hd
    unfold ByteArray.toList.loop
    have h : ¬ i < s.size := by omega
    have h2 : s.data.toList.length ≤ i := by rw [Array.length_toList]; exact Nat.le_of_not_lt h
    rw [if_neg h, List.drop_of_length_le h2, List.append_nil]
  | succ d ih =>
    intro i r hd
    unfold ByteArray.toList.loop
    have h : i < s.size := by omega
    have h2 : i < s.data.toList.length := by rw [Array.length_toList]; exact h
    have h3 : s.size - (i + 1) = d := by omega
    rw [if_pos h, ih (i + 1) _ h3, List.drop_eq_getElem_cons h2, List.reverse_cons, List.append_assoc]
    have h4 : s.get! i = s.data.toList[i] := by
      rw [Array.getElem_toList]
      exact getElem!_pos s.data i h
    rw [h4]
    rfl
theorem strings_Contains.toList_eq (s : ByteArray) : s.toList = s.data.toList := by
  unfold ByteArray.toList
  rw [strings_Contains.toList_loop s _ 0 [] rfl]
  rfl
set_option maxRecDepth 100000 in
set_option maxHeartbeats 2000000 in
theorem strings_Contains.idx (a0 : ByteArray) (b : UInt8) (w : World) :
    Calls Try.prog 89 #[.string a0, .string ⟨#[b]⟩] w fun e w' => e = .returned (.int .i64 (Lib.indexByte a0.data.toList b)) ∧ Drawn0 w w' := by
  have hcall : ∀ W : World, Calls Try.prog 87 #[.string a0, .int .u8 (b.toNat : Int)] W fun e w' => e = .returned (.int .i64 (Lib.indexByte a0.data.toList b)) ∧ Drawn0 W w' := fun W => stringslite_IndexByte.calls a0 (b.toNat : Int) _ W (by unfold stringslite_IndexByte.f; simp)
  cases hq : ([b] == a0.toList) with
  | true =>
    have he : a0.data.toList = [b] := by
      rw [← strings_Contains.toList_eq]
      exact (eq_of_beq hq).symm
    have hz : Lib.indexByte a0.data.toList b = 0 := by rw [he]; simp [Lib.indexByte]
    rw [hz]
    clear hcall hz he
    go_enter Try.func89, Try.ntmps89
    go_wp2
    go_ret
    exact ⟨rfl, Drawn0.refl _⟩
  | false =>
    generalize Lib.indexByte a0.data.toList b = r at hcall ⊢
    go_enter Try.func89, Try.ntmps89
    go_wp2_with (go_at_call 87; refine (hcall _).mono ?_; rintro e w' ⟨rfl, q', rfl⟩)
    go_ret
    exact ⟨rfl, _, rfl⟩
set_option maxRecDepth 100000 in
theorem strings_Contains.index (a0 : ByteArray) (b : UInt8) (w : World) :
    Calls Try.prog 77 #[.string a0, .string ⟨#[b]⟩] w fun e w' => e = .returned (.int .i64 (Lib.indexByte a0.data.toList b)) ∧ Drawn0 w w' := by
  have hcall := fun W => strings_Contains.idx a0 b W
  generalize Lib.indexByte a0.data.toList b = r at hcall ⊢
  go_enter Try.func77, Try.ntmps77
  go_wp2_with (go_at_call 89; refine (hcall _).mono ?_; rintro e w' ⟨rfl, q', rfl⟩)
  go_ret
  exact ⟨rfl, _, rfl⟩
set_option maxRecDepth 100000 in
theorem strings_Contains.calls (a0 a1 : ByteArray) (r : Bool) (w : World) (h : strings_Contains.f a0 a1 = some r) :
    Calls Try.prog 54 #[.string a0, .string a1] w fun e w' => e = .returned (.bool r) ∧ Drawn0 w w' := by
  unfold strings_Contains.f at h
  by_cases hs : a1.size = 1
  · rw [if_pos hs] at h
    obtain ⟨b, rfl, hb⟩ := strings_Contains.one a1 hs
    rw [hb] at h
    have hcall := fun W => strings_Contains.index a0 b W
    generalize Lib.indexByte a0.data.toList b = i at hcall h
    obtain rfl := Option.some.inj h
    clear h hb hs
    go_enter Try.func54, Try.ntmps54
    go_wp2_with (go_at_call 77; refine (hcall _).mono ?_; rintro e w' ⟨rfl, q', rfl⟩)
    go_ret
    exact ⟨rfl, _, rfl⟩
  · rw [if_neg hs] at h; cases h

end Go.Proofs.Ytoiondajpccobaa.P
