-- Printed by wip/pp.py of this claim's session (the kit's print over functions that are given by hand). Not trusted: Lean checks it.
import Derived.Test.YtoiondajpccobaaPx0
import Derived.Test.YtoiondajpccobaaPx1
namespace Go.Proofs.Ytoiondajpccobaa.P
open Go.RowKit Go.Proofs.YtoiondajpccobaaW.PrintWords Go.Proofs.YtoiondajpccobaaW.PrintLast Go.Proofs.YtoiondajpccobaaW.PrintMore
attribute [local go_sem] max2_int min2_int max_two min_two max_three min_three max_four min_four   -- for this text's walks alone
set_option linter.unusedVariables false
set_option linter.unusedSimpArgs false

/-! ### slices_IndexFunc_byte_byte: function 72 (given) -/
/-- Where the first element lies of which p holds; -1 if there is none. -/
def slices_IndexFunc_byte_byte.at (p : Int → Bool) (l : List Int) : Int := match l.findIdx? p with | some i => (i : Int) | none => -1
theorem slices_IndexFunc_byte_byte.at_hit (p : Int → Bool) (l : List Int) (k : Nat) (hk : k < l.length) (hp : p l[k] = true) (h : ∀ j, j < k → p (l.getD j 0) = false) : slices_IndexFunc_byte_byte.at p l = (k : Int) := by
  have h1 : l.findIdx? p = some k := by
    rw [List.findIdx?_eq_some_iff_getElem]
    refine ⟨hk, hp, fun j hj => ?_⟩
    have := h j hj
    rw [List.getD_eq_getElem?_getD, List.getElem?_eq_getElem (show j < l.length by omega)] at this
    simpa using this
  unfold slices_IndexFunc_byte_byte.at
  rw [h1]
theorem slices_IndexFunc_byte_byte.at_miss (p : Int → Bool) (l : List Int) (h : ∀ j, j < l.length → p (l.getD j 0) = false) : slices_IndexFunc_byte_byte.at p l = -1 := by
  have h1 : l.findIdx? p = none := by
    rw [List.findIdx?_eq_none_iff]
    intro x hx
    obtain ⟨j, hj, rfl⟩ := List.getElem_of_mem hx
    have := h j hj
    rw [List.getD_eq_getElem?_getD, List.getElem?_eq_getElem hj] at this
    simpa using this
  unfold slices_IndexFunc_byte_byte.at
  rw [h1]
theorem slices_IndexFunc_byte_byte.at_nonneg (p : Int → Bool) (l : List Int) : decide (0 ≤ slices_IndexFunc_byte_byte.at p l) = l.any p := by
  unfold slices_IndexFunc_byte_byte.at
  cases h : l.findIdx? p with
  | none =>
    rw [List.findIdx?_eq_none_iff] at h
    have : l.any p = false := by rw [List.any_eq_false]; intro x hx; simpa using h x hx
    rw [this]; rfl
  | some i =>
    rw [List.findIdx?_eq_some_iff_getElem] at h
    obtain ⟨hi, hp, _⟩ := h
    have : l.any p = true := by rw [List.any_eq_true]; exact ⟨_, List.getElem_mem hi, hp⟩
    rw [this]
    simp
set_option maxRecDepth 100000 in
set_option maxHeartbeats 2000000 in
theorem slices_IndexFunc_byte_byte.gives (g : Nat) (lb : Array Value) (eg : ∀ args w, (callFunc g args).run Try.prog w = .ok (.enter g args) w) (p : Int → Bool) (A : Option Addr) (c : Nat) (l : List Int) (w : World)
    (hp : ∀ (W : World) (x : Int), x ∈ l → Below w.heap.size w W → Calls Try.prog g (#[.int .u8 x] ++ lb) W fun e w' => e = .returned (.bool (p x)) ∧ ∃ q, w' = W.drewN q)
    (hr : Kd.C (Kd.int .u8) w A l.length l) :
    Calls Try.prog 72 #[.slice A l.length c, .func (.func g) #[] lb] w fun e w' => e = .returned (.int .i64 (slices_IndexFunc_byte_byte.at p l)) ∧ ∃ q, w' = w.drewN q := by
  have hpAt : ∀ (x : Int) (q : Nat), x ∈ l → Calls Try.prog g (#[.int .u8 x] ++ lb) (w.drewN q) fun e w' => e = .returned (.bool (p x)) ∧ ∃ q', w' = (w.drewN q).drewN q' := fun x q hx => hp _ x hx (pw_below_drewN (Below.refl _ w) q)
  clear hp
  have hbig := Kd.C_max hr
  have hc : ∀ k, k < l.length → ∃ ad, A = some ad ∧ w.cell? (ad.add k) = some (.int .u8 (l.getD k 0)) := fun k hk => by
    obtain ⟨ad, e, h⟩ := Kd.at_int hr (k : Int) (by omega) (by omega)
    exact ⟨ad, e, by simpa [rd] using h⟩
  clear hr
  have Hhit := slices_IndexFunc_byte_byte.at_hit p l
  have Hmiss := slices_IndexFunc_byte_byte.at_miss p l
  generalize slices_IndexFunc_byte_byte.at p l = res at Hhit Hmiss ⊢
  have HH := Aside0.mk Hhit
  have HM := Aside0.mk Hmiss
  clear Hhit Hmiss
  go_enter Try.func72, Try.ntmps72
  go_wp2
  go_loopg [5, 8] l.length (fun gg _ s8 wr => ∃ kk q : Nat, kk ≤ l.length ∧ l.length - kk ≤ gg ∧ s8 = .int .i64 kk ∧ wr = w.drewN q ∧ Aside (∀ j, j < kk → p (l.getD j 0) = false))
  case atStart => exact ⟨0, 0, Nat.zero_le _, by omega, rfl, rfl, fun j hj => absurd hj (Nat.not_lt_zero _)⟩
  case round =>
    obtain ⟨kk, q, hkk, hg, rfl, rfl, B⟩ := hrel
    by_cases hlt : kk < l.length
    · have hltz : (kk : Int) < (l.length : Int) := by omega
      obtain ⟨ad, rfl, hcell⟩ := hc kk hlt
      clear hc
      have hy0 : p l[kk] = p (l.getD kk 0) := by rw [List.getD_eq_getElem?_getD, List.getElem?_eq_getElem hlt]; rfl
      have H0 := Aside0.mk hy0
      clear hy0
      have hmem0 : l.getD kk 0 ∈ l := by rw [List.getD_eq_getElem?_getD, List.getElem?_eq_getElem hlt]; exact List.getElem_mem hlt
      generalize hy : l.getD kk 0 = y at hcell H0 hmem0
      have D : Aside (l.getD kk 0 = y) := hy
      clear hy
      have hcall := fun q => hpAt y q hmem0
      clear hmem0
      cases hq : p y with
      | true =>
        rw [hq] at hcall
        have Q : Aside (p y = true) := hq
        clear hq
        go_wp2_with (go_at_fn g; refine (hcall _).mono ?_; rintro e w' ⟨rfl, q', rfl⟩)
        go_ret
        refine ⟨?_, _, rfl⟩
        rw [HH.out kk hlt (by rw [H0.out]; exact Q.out) B.out]
        rfl
      | false =>
        rw [hq] at hcall
        have Q : Aside (p y = false) := hq
        clear hq
        go_wp2_with (go_at_fn g; refine (hcall _).mono ?_; rintro e w' ⟨rfl, q', rfl⟩)
        go_roundg (l.length - (kk + 1))
        case measure => omega
        case rel =>
          refine ⟨kk + 1, _, by omega, by omega, by go_num, rfl, (show Aside _ from fun j hj => ?_)⟩
          by_cases e : j = kk
          · subst e
            rw [D.out]; exact Q.out
          · exact B.out j (by omega)
    · have hltz : ¬ (kk : Int) < (l.length : Int) := by omega
      have hkl : kk = l.length := by omega
      have K := Aside0.mk hkl
      clear hkl
      go_wp2
      go_ret
      refine ⟨?_, q, rfl⟩
      rw [HM.out (by rw [← K.out]; exact B.out)]
      rfl

/-! ### impl_IsFence: function 16 (given) -/
/-- Is a byte a board's: '.', or a letter from a to e. -/
def boardB (c : Int) : Bool := decide (c = 46) || (decide (97 ≤ c) && decide (c ≤ 101))
theorem isBoard_told : ∀ x : Fin 256, impl_isBoard.f ((x.val : Nat) : Int) = some (boardB ((x.val : Nat) : Int)) := by decide +kernel
theorem isBoard_f (x : Int) (h0 : 0 ≤ x) (h1 : x ≤ 255) : impl_isBoard.f x = some (boardB x) := by
  obtain ⟨n, rfl⟩ := Int.eq_ofNat_of_zero_le h0
  exact isBoard_told ⟨n, by omega⟩
theorem bytesOf_inrange (s : ByteArray) (x : Int) (h : x ∈ bytesOf s) : 0 ≤ x ∧ x ≤ 255 := by
  unfold bytesOf at h
  obtain ⟨b, _, rfl⟩ := List.mem_map.1 h
  have := b.toNat_lt
  omega
def impl_IsFence.f (a0 : ByteArray) : Option (Bool) := some ((decide (1 ≤ a0.size) && decide (a0.size ≤ 20)) && (bytesOf a0).all boardB)
set_option maxRecDepth 100000 in
theorem impl_IsFence.pred (W : World) (x : Int) (h0 : 0 ≤ x) (h1 : x ≤ 255) :
    Calls Try.prog 48 (#[.int .u8 x] ++ #[]) W fun e w' => e = .returned (.bool (!boardB x)) ∧ ∃ q, w' = W.drewN q := by
  have hcall : ∀ W : World, Calls Try.prog 49 #[.int .u8 x] W fun e w' => e = .returned (.bool (boardB x)) ∧ Drawn0 W w' := fun W => impl_isBoard.calls x _ W (isBoard_f x h0 h1)
  clear h0 h1
  generalize boardB x = b at hcall ⊢
  show Calls Try.prog 48 #[.int .u8 x] W _
  go_enter Try.func48, Try.ntmps48
  go_wp2_with (go_at_call 49; refine (hcall _).mono ?_; rintro e w' ⟨rfl, q', rfl⟩)
  go_ret
  exact ⟨rfl, _, rfl⟩
set_option maxRecDepth 100000 in
theorem impl_IsFence.contains (w : World) (A : Option Addr) (c : Nat) (l : List Int) (hr : Kd.C (Kd.int .u8) w A l.length l) (hl : ∀ x ∈ l, 0 ≤ x ∧ x ≤ 255) (b : Bool) (hb : b = l.all boardB) :
    Calls Try.prog 47 #[.slice A l.length c, .func (.func 48) #[] #[]] w fun e w' => e = .returned (.bool (!b)) ∧ ∃ q, w' = w.drewN q := by
  have eg : ∀ args w, (callFunc 48 args).run Try.prog w = .ok (.enter 48 args) w := enters_of Try.func48 (by kernel_rfl) rfl
  have hn := slices_IndexFunc_byte_byte.at_nonneg (fun x => !boardB x) l
  have hix := slices_IndexFunc_byte_byte.gives 48 #[] eg (fun x => !boardB x) A c l w (fun W x hx _ => impl_IsFence.pred W x (hl x hx).1 (hl x hx).2) hr
  have hb2 : (!b) = l.any fun x => !boardB x := by rw [hb, List.any_eq_not_all_not]; simp
  rw [← hn] at hb2
  rw [hb2]
  clear hb2 hn hr hl hb eg
  generalize slices_IndexFunc_byte_byte.at (fun x => !boardB x) l = i at hix ⊢
  go_enter Try.func47, Try.ntmps47
  go_wp2_with (go_at_call 72; refine hix.mono ?_; rintro e w' ⟨rfl, q, rfl⟩)
  go_ret
  exact ⟨rfl, _, rfl⟩
set_option maxRecDepth 100000 in
set_option maxHeartbeats 2000000 in
theorem impl_IsFence.calls (a0 : ByteArray) (r : Bool) (w : World) (h : impl_IsFence.f a0 = some r) :
    Calls Try.prog 16 #[.string a0] w fun e w' => e = .returned (.bool r) ∧ Below w.heap.size w w' := by
  have hr : r = ((decide (1 ≤ a0.size) && decide (a0.size ≤ 20)) && (bytesOf a0).all boardB) := (Option.some.inj h).symm
  clear h
  have hin : impl_within.f (a0.size : Int) 1 20 = some (decide (1 ≤ a0.size) && decide (a0.size ≤ 20)) := by
    unfold impl_within.f
    by_cases h : (a0.size : Int) ≥ 1
    · rw [if_pos h]; simp [show 1 ≤ a0.size by omega]; omega
    · rw [if_neg h]; simp [show ¬ 1 ≤ a0.size by omega]
  have hcall : ∀ W : World, Calls Try.prog 46 #[.int .i64 (a0.size : Int), .int .i64 1, .int .i64 20] W fun e w' => e = .returned (.bool (decide (1 ≤ a0.size) && decide (a0.size ≤ 20))) ∧ Drawn0 W w' := fun W => impl_within.calls (a0.size : Int) 1 20 _ W hin
  clear hin
  cases hb : (decide (1 ≤ a0.size) && decide (a0.size ≤ 20)) with
  | false =>
    rw [hb] at hcall hr
    obtain rfl : r = false := by rw [hr]; rfl
    clear hr hb
    go_enter Try.func16, Try.ntmps16
    go_wp2_with (go_at_call 46; refine (hcall _).mono ?_; rintro e w' ⟨rfl, q', rfl⟩)
    go_ret
    exact ⟨rfl, pw_below_drewN (Below.refl _ w) _⟩
  | true =>
    rw [hb, Bool.true_and] at hr
    rw [hb] at hcall
    have hsz : a0.size ≤ 20 := by simp at hb; omega
    have hcont : ∀ (W : World), Calls Try.prog 47 #[.slice (some ⟨W.heap.size, 0, none⟩) a0.size (grownCap W a0.size 0 5), .func (.func 48) #[] #[]] (Lib.bytesWorld W 5 a0) fun e w' => e = .returned (.bool (!r)) ∧ ∃ q, w' = (Lib.bytesWorld W 5 a0).drewN q := fun W => by
      have hR := Kd.C_of_reads (d := (0 : Int)) (h1 := fun _ => rfl) (bytes_reads W 5 a0 (by omega))
      have hl := bytesOf_length a0
      have := impl_IsFence.contains (Lib.bytesWorld W 5 a0) (some ⟨W.heap.size, 0, none⟩) (grownCap W a0.size 0 5) (bytesOf a0) (by rw [hl]; exact hR) (bytesOf_inrange a0) r hr
      rw [hl] at this
      exact this
    have hcv : ∀ W : World, (convert 9 47 (.string a0)).run Try.prog W = .ok (.slice (some ⟨W.heap.size, 0, none⟩) a0.size (grownCap W a0.size 0 5)) (Lib.bytesWorld W 5 a0) := fun W => Lib.run_convert_string_bytes W 9 47 5 a0 Try.underlying9 Try.underlying47 Try.underlying5
    have hcont2 : ∀ n : Nat, Calls Try.prog 47 #[.slice (some ⟨w.heap.size, 0, none⟩) a0.size (grownCap (w.drewN n) a0.size 0 5), .func (.func 48) #[] #[]] (Lib.bytesWorld (w.drewN n) 5 a0) fun e w' => e = .returned (.bool (!r)) ∧ ∃ q, w' = (Lib.bytesWorld (w.drewN n) 5 a0).drewN q := fun n => hcont (w.drewN n)
    clear hr hb hsz hcont
    go_enter Try.func16, Try.ntmps16
    go_wp2_with (first | (go_at_call 46; refine (hcall _).mono ?_; rintro e w' ⟨rfl, q', rfl⟩) | (go_at_call 47; refine (hcont2 _).mono ?_; rintro e w' ⟨rfl, q', rfl⟩))
    go_ret
    exact ⟨by simp, pw_below_drewN (bytes_below (pw_below_drewN (Below.refl _ w) _) (by simp) _ _) _⟩

/-! ### laws_FnExactIsFence: function 3 -/
def laws_FnExactIsFence.f (k : Nat) (a0 : ByteArray) : Option (Bool) := if (a0.size : Int) > 1048576 then (some true) else ((spec_IsFence.f k a0).bind fun t105 => ((impl_IsFence.f a0).bind fun t106 => (if (t106 != t105) = true then (some false) else (some true))))
theorem laws_FnExactIsFence.mono : ∀ a0 k, LeO (laws_FnExactIsFence.f k a0) (laws_FnExactIsFence.f (k + 1) a0) := by
  intro a0 k
  unfold laws_FnExactIsFence.f
  repeat' first
      | (with_reducible exact spec_IsFence.mono _ _)
      | (with_reducible exact LeO.refl _)
      | (with_reducible exact LeO.none _)
      | (with_reducible refine LeO.ite ?_ ?_)
      | (with_reducible refine LeO.bind ?_ (fun _ => ?_))
      | exact spec_IsFence.mono _ _
      | exact LeO.none _
      | refine LeO.ite ?_ ?_
      | refine LeO.bind ?_ (fun _ => ?_)
set_option maxHeartbeats 8000000 in
set_option maxRecDepth 100000 in
theorem laws_FnExactIsFence.calls (k : Nat) (a0 : ByteArray) (r : Bool) (w : World) (h : laws_FnExactIsFence.f k a0 = some r) :
    Calls Try.prog 3 #[.string a0] w fun e w' => e = .returned (.bool r) ∧ Below w.heap.size w w' := by
  have HB := Aside0.mk (Below.refl w.heap.size w)
  have H : (if (a0.size : Int) > 1048576 then (some true) else ((spec_IsFence.f k a0).bind fun t105 => ((impl_IsFence.f a0).bind fun t106 => (if (t106 != t105) = true then (some false) else (some true))))) = some r := h
  clear h
  by_cases c2 : (a0.size : Int) > 1048576
  · rw [if_pos c2] at H
    have c2b0 : decide (1048576 < (a0.size : Int)) = true := decide_eq_true c2
    have c2b1 : decide (1048576 < a0.size) = true := decide_eq_true (by omega)
    clear c2
    obtain rfl := Option.some.inj H
    go_enter Try.func3, Try.ntmps3
    go_wp2
    go_ret
    exact ⟨by first | rfl | (simp [errW_none, errW_some] <;> rfl) | (simp [*, errW_none, errW_some] <;> rfl), by repeat (first | (with_reducible first | exact HB.out | apply below_alloc | apply pw_below_drewN | apply below_drew1) | exact HB.out)⟩
  · rw [if_neg c2] at H
    have c2b0 : decide (1048576 < (a0.size : Int)) = false := decide_eq_false c2
    have c2b1 : decide (1048576 < a0.size) = false := decide_eq_false (by omega)
    clear c2
    replace H := Option.bind_eq_some_iff.mp H
    obtain ⟨t105, A30, H⟩ := H
    replace H : ((impl_IsFence.f a0).bind fun t106 => (if (t106 != t105) = true then (some false) else (some true))) = some r := H
    have A3 := Aside0.mk A30
    clear A30
    replace H := Option.bind_eq_some_iff.mp H
    obtain ⟨t106, A40, H⟩ := H
    replace H : (if (t106 != t105) = true then (some false) else (some true)) = some r := H
    have A4 := Aside0.mk A40
    clear A40
    by_cases c5 : (t106 != t105) = true
    · rw [if_pos c5] at H
      have c5b0 : (t106 != t105) = true := c5
      (try (have c5b1 : decide (t106 = t105) = false := by simpa using c5))
      (try (have c5b2 : (t106 == t105) = false := by simpa using c5))
      (try (have c5b3 : ¬ (t106 = t105) := by simpa using c5))
      clear c5
      obtain rfl := Option.some.inj H
      go_enter Try.func3, Try.ntmps3
      go_wp2_with (first | ((with_reducible refine gate_callee (f := 15) rfl ?_); refine goesL_ (some 9) rfl rfl Try.func15 (by kernel_rfl) rfl #[.string a0] rfl (by (try simp only [List.map_toArray, List.map_cons, List.map_nil]); first | done | rfl | (simp only [List.length_drop, List.length_take]; rfl)) ?_; (with_reducible refine (spec_IsFence.calls k a0 t105 _ A3.out).mono ?_); rintro e w' ⟨rfl, ⟨nd, rfl⟩⟩; refine ⟨_, rfl, ?_⟩) | ((with_reducible refine gate_callee (f := 16) rfl ?_); refine goesL_ (some 11) rfl rfl Try.func16 (by kernel_rfl) rfl #[.string a0] rfl (by (try simp only [List.map_toArray, List.map_cons, List.map_nil]); first | done | rfl | (simp only [List.length_drop, List.length_take]; rfl)) ?_; (with_reducible refine (impl_IsFence.calls a0 t106 _ A4.out).mono ?_); rintro e w6 ⟨rfl, hb⟩; refine ⟨_, rfl, ?_⟩; have n0_ := Aside0.mk (below_step (by repeat (first | (with_reducible first | exact HB.out | apply below_alloc | apply pw_below_drewN | apply below_drew1) | exact HB.out)) hb); clear HB; have HB := n0_; clear n0_; (try clear hb); (try clear hb2); (try clear hk); (try clear hi)))
      go_ret
      exact ⟨by first | rfl | (simp [errW_none, errW_some] <;> rfl) | (simp [*, errW_none, errW_some] <;> rfl), by repeat (first | (with_reducible first | exact HB.out | apply below_alloc | apply pw_below_drewN | apply below_drew1) | exact HB.out)⟩
    · rw [if_neg c5] at H
      have c5b0 : (t106 != t105) = false := by simpa using c5
      (try (have c5b1 : decide (t106 = t105) = true := by simpa using c5))
      (try (have c5b2 : (t106 == t105) = true := by simpa using c5))
      clear c5
      obtain rfl := Option.some.inj H
      go_enter Try.func3, Try.ntmps3
      go_wp2_with (first | ((with_reducible refine gate_callee (f := 15) rfl ?_); refine goesL_ (some 9) rfl rfl Try.func15 (by kernel_rfl) rfl #[.string a0] rfl (by (try simp only [List.map_toArray, List.map_cons, List.map_nil]); first | done | rfl | (simp only [List.length_drop, List.length_take]; rfl)) ?_; (with_reducible refine (spec_IsFence.calls k a0 t105 _ A3.out).mono ?_); rintro e w' ⟨rfl, ⟨nd, rfl⟩⟩; refine ⟨_, rfl, ?_⟩) | ((with_reducible refine gate_callee (f := 16) rfl ?_); refine goesL_ (some 11) rfl rfl Try.func16 (by kernel_rfl) rfl #[.string a0] rfl (by (try simp only [List.map_toArray, List.map_cons, List.map_nil]); first | done | rfl | (simp only [List.length_drop, List.length_take]; rfl)) ?_; (with_reducible refine (impl_IsFence.calls a0 t106 _ A4.out).mono ?_); rintro e w7 ⟨rfl, hb⟩; refine ⟨_, rfl, ?_⟩; have n0_ := Aside0.mk (below_step (by repeat (first | (with_reducible first | exact HB.out | apply below_alloc | apply pw_below_drewN | apply below_drew1) | exact HB.out)) hb); clear HB; have HB := n0_; clear n0_; (try clear hb); (try clear hb2); (try clear hk); (try clear hi)))
      go_ret
      exact ⟨by first | rfl | (simp [errW_none, errW_some] <;> rfl) | (simp [*, errW_none, errW_some] <;> rfl), by repeat (first | (with_reducible first | exact HB.out | apply below_alloc | apply pw_below_drewN | apply below_drew1) | exact HB.out)⟩

/-- THE ONE PURE STATEMENT of laws_FnExactIsFence: yours. -/
def laws_FnExactIsFence.Pure : Prop := ∀ (a0 : ByteArray), a0.size ≤ 140737488351232 → ∃ k, laws_FnExactIsFence.f k a0 = some true
theorem laws_FnExactIsFence.walk (P : laws_FnExactIsFence.Pure) (a0 : ByteArray) (w : World) (w0 : a0.size ≤ 140737488351232) :
    Calls Try.prog 3 #[.string a0] w fun e w' => e = .returned (.bool true) ∧ Below w.heap.size w w' := by
  obtain ⟨k, h⟩ := P a0 w0
  refine (laws_FnExactIsFence.calls k a0 true w h).mono ?_
  rintro e w' ⟨rfl, hd⟩
  exact ⟨rfl, hd⟩

/-! ### spec_JoinFences: function 17 -/
def spec_JoinFences.f (k : Nat) (a0 : ByteArray) (a1 : ByteArray) : Option (ByteArray × Bool) := (spec_stGood.f k a0).bind fun t107 => (if t107 = true then ((spec_stGood.f k a1).bind fun t108 => (if t108 = true then (if (wrap64 ((a0.size : Int) + (a1.size : Int))) > 20 then (some ((⟨#[]⟩ : ByteArray), false)) else (if a0.size + a1.size ≤ 9223372036854775807 then (some (a0 ++ a1, true)) else (none))) else (some ((⟨#[]⟩ : ByteArray), false)))) else (some ((⟨#[]⟩ : ByteArray), false)))
theorem spec_JoinFences.mono : ∀ a0 a1 k, LeO (spec_JoinFences.f k a0 a1) (spec_JoinFences.f (k + 1) a0 a1) := by
  intro a0 a1 k
  unfold spec_JoinFences.f
  repeat' first
      | (with_reducible exact spec_stGood.mono _ _)
      | (with_reducible exact LeO.refl _)
      | (with_reducible exact LeO.none _)
      | (with_reducible refine LeO.ite ?_ ?_)
      | (with_reducible refine LeO.bind ?_ (fun _ => ?_))
      | exact spec_stGood.mono _ _
      | exact LeO.none _
      | refine LeO.ite ?_ ?_
      | refine LeO.bind ?_ (fun _ => ?_)
set_option maxHeartbeats 8000000 in
set_option maxRecDepth 100000 in
theorem spec_JoinFences.calls (k : Nat) (a0 : ByteArray) (a1 : ByteArray) (r1 : ByteArray) (r2 : Bool) (w : World) (h : spec_JoinFences.f k a0 a1 = some (r1, r2)) :
    Calls Try.prog 17 #[.string a0, .string a1] w fun e w' => e = .returned (.tuple #[.string r1, .bool r2]) ∧ Drawn0 w w' := by
  have H : ((spec_stGood.f k a0).bind fun t107 => (if t107 = true then ((spec_stGood.f k a1).bind fun t108 => (if t108 = true then (if (wrap64 ((a0.size : Int) + (a1.size : Int))) > 20 then (some ((⟨#[]⟩ : ByteArray), false)) else (if a0.size + a1.size ≤ 9223372036854775807 then (some (a0 ++ a1, true)) else (none))) else (some ((⟨#[]⟩ : ByteArray), false)))) else (some ((⟨#[]⟩ : ByteArray), false)))) = some (r1, r2) := h
  clear h
  replace H := Option.bind_eq_some_iff.mp H
  obtain ⟨t107, A30, H⟩ := H
  replace H : (if t107 = true then ((spec_stGood.f k a1).bind fun t108 => (if t108 = true then (if (wrap64 ((a0.size : Int) + (a1.size : Int))) > 20 then (some ((⟨#[]⟩ : ByteArray), false)) else (if a0.size + a1.size ≤ 9223372036854775807 then (some (a0 ++ a1, true)) else (none))) else (some ((⟨#[]⟩ : ByteArray), false)))) else (some ((⟨#[]⟩ : ByteArray), false))) = some (r1, r2) := H
  have A3 := Aside0.mk A30
  clear A30
  by_cases c4 : t107 = true
  · subst c4
    have H1 : ((spec_stGood.f k a1).bind fun t108 => (if t108 = true then (if (wrap64 ((a0.size : Int) + (a1.size : Int))) > 20 then (some ((⟨#[]⟩ : ByteArray), false)) else (if a0.size + a1.size ≤ 9223372036854775807 then (some (a0 ++ a1, true)) else (none))) else (some ((⟨#[]⟩ : ByteArray), false)))) = some (r1, r2) := by rw [if_pos rfl] at H; exact H
    clear H
    have H := H1
    clear H1
    replace H := Option.bind_eq_some_iff.mp H
    obtain ⟨t108, A50, H⟩ := H
    replace H : (if t108 = true then (if (wrap64 ((a0.size : Int) + (a1.size : Int))) > 20 then (some ((⟨#[]⟩ : ByteArray), false)) else (if a0.size + a1.size ≤ 9223372036854775807 then (some (a0 ++ a1, true)) else (none))) else (some ((⟨#[]⟩ : ByteArray), false))) = some (r1, r2) := H
    have A5 := Aside0.mk A50
    clear A50
    by_cases c6 : t108 = true
    · subst c6
      have H1 : (if (wrap64 ((a0.size : Int) + (a1.size : Int))) > 20 then (some ((⟨#[]⟩ : ByteArray), false)) else (if a0.size + a1.size ≤ 9223372036854775807 then (some (a0 ++ a1, true)) else (none))) = some (r1, r2) := by rw [if_pos rfl] at H; exact H
      clear H
      have H := H1
      clear H1
      by_cases c7 : (wrap64 ((a0.size : Int) + (a1.size : Int))) > 20
      · rw [if_pos c7] at H
        have c7b0 : decide (20 < (wrap64 ((a0.size : Int) + (a1.size : Int)))) = true := decide_eq_true c7
        clear c7
        simp only [Option.some.injEq, Prod.mk.injEq] at H
        obtain ⟨rfl, rfl⟩ := H
        go_enter Try.func17, Try.ntmps17
        go_wp2_with (first | ((with_reducible refine gate_callee (f := 45) rfl ?_); refine goesL_ (some 7) rfl rfl Try.func45 (by kernel_rfl) rfl #[.string a0] rfl (by (try simp only [List.map_toArray, List.map_cons, List.map_nil]); first | done | rfl | (simp only [List.length_drop, List.length_take]; rfl)) ?_; (with_reducible refine (spec_stGood.calls k a0 true _ A3.out).mono ?_); rintro e w' ⟨rfl, ⟨nd, rfl⟩⟩; refine ⟨_, rfl, ?_⟩) | (go_at_call 45; (with_reducible refine (spec_stGood.calls k a1 true _ A5.out).mono ?_); rintro e w' ⟨rfl, ⟨nd, rfl⟩⟩))
        go_ret2
        exact ⟨by first | rfl | (simp; done) | (simp [*]; done), by repeat (first | exact Drawn0.refl _ | apply Drawn0.step)⟩
      · rw [if_neg c7] at H
        have c7b0 : decide (20 < (wrap64 ((a0.size : Int) + (a1.size : Int)))) = false := decide_eq_false c7
        clear c7
        by_cases c8 : a0.size + a1.size ≤ 9223372036854775807
        · rw [if_pos c8] at H
          have c8b0 := eq_true c8
          have c8b1 : decide (a0.size + a1.size ≤ 9223372036854775807) = true := decide_eq_true c8
          have hw_ : wrap64 ((a0.size : Int) + (a1.size : Int)) = (a0.size : Int) + (a1.size : Int) := (by unfold wrap64; omega)
          try rw [hw_] at c7b0
          clear hw_
          try have c8b2 : (9223372036854775807 < a0.size + a1.size) = False := eq_false (Nat.not_lt.2 c8)
          simp only [Option.some.injEq, Prod.mk.injEq] at H
          obtain ⟨rfl, rfl⟩ := H
          go_enter Try.func17, Try.ntmps17
          go_wp2_with (first | ((with_reducible refine gate_callee (f := 45) rfl ?_); refine goesL_ (some 7) rfl rfl Try.func45 (by kernel_rfl) rfl #[.string a0] rfl (by (try simp only [List.map_toArray, List.map_cons, List.map_nil]); first | done | rfl | (simp only [List.length_drop, List.length_take]; rfl)) ?_; (with_reducible refine (spec_stGood.calls k a0 true _ A3.out).mono ?_); rintro e w' ⟨rfl, ⟨nd, rfl⟩⟩; refine ⟨_, rfl, ?_⟩) | (go_at_call 45; (with_reducible refine (spec_stGood.calls k a1 true _ A5.out).mono ?_); rintro e w' ⟨rfl, ⟨nd, rfl⟩⟩))
          go_ret2
          exact ⟨by first | rfl | (simp; done) | (simp [*]; done), by repeat (first | exact Drawn0.refl _ | apply Drawn0.step)⟩
        · rw [if_neg c8] at H
          exact absurd H (by simp)
    · replace c6 := Bool.eq_false_iff.mpr c6
      subst c6
      have H1 : (some ((⟨#[]⟩ : ByteArray), false)) = some (r1, r2) := by rw [if_neg (show ¬ (false = true) by decide)] at H; exact H
      clear H
      have H := H1
      clear H1
      simp only [Option.some.injEq, Prod.mk.injEq] at H
      obtain ⟨rfl, rfl⟩ := H
      go_enter Try.func17, Try.ntmps17
      go_wp2_with (first | ((with_reducible refine gate_callee (f := 45) rfl ?_); refine goesL_ (some 7) rfl rfl Try.func45 (by kernel_rfl) rfl #[.string a0] rfl (by (try simp only [List.map_toArray, List.map_cons, List.map_nil]); first | done | rfl | (simp only [List.length_drop, List.length_take]; rfl)) ?_; (with_reducible refine (spec_stGood.calls k a0 true _ A3.out).mono ?_); rintro e w' ⟨rfl, ⟨nd, rfl⟩⟩; refine ⟨_, rfl, ?_⟩) | (go_at_call 45; (with_reducible refine (spec_stGood.calls k a1 false _ A5.out).mono ?_); rintro e w' ⟨rfl, ⟨nd, rfl⟩⟩))
      go_ret2
      exact ⟨by first | rfl | (simp; done) | (simp [*]; done), by repeat (first | exact Drawn0.refl _ | apply Drawn0.step)⟩
  · replace c4 := Bool.eq_false_iff.mpr c4
    subst c4
    have H1 : (some ((⟨#[]⟩ : ByteArray), false)) = some (r1, r2) := by rw [if_neg (show ¬ (false = true) by decide)] at H; exact H
    clear H
    have H := H1
    clear H1
    simp only [Option.some.injEq, Prod.mk.injEq] at H
    obtain ⟨rfl, rfl⟩ := H
    go_enter Try.func17, Try.ntmps17
    go_wp2_with (first | ((with_reducible refine gate_callee (f := 45) rfl ?_); refine goesL_ (some 7) rfl rfl Try.func45 (by kernel_rfl) rfl #[.string a0] rfl (by (try simp only [List.map_toArray, List.map_cons, List.map_nil]); first | done | rfl | (simp only [List.length_drop, List.length_take]; rfl)) ?_; (with_reducible refine (spec_stGood.calls k a0 false _ A3.out).mono ?_); rintro e w' ⟨rfl, ⟨nd, rfl⟩⟩; refine ⟨_, rfl, ?_⟩))
    go_ret2
    exact ⟨by first | rfl | (simp; done) | (simp [*]; done), by repeat (first | exact Drawn0.refl _ | apply Drawn0.step)⟩

end Go.Proofs.Ytoiondajpccobaa.P
