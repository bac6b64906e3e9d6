-- Printed by wip/pp.py of this claim's session (the kit's print over functions that are given by hand). Not trusted: Lean checks it.
import Derived.Test.YtdolabkagkdfaaaPx0
import Derived.Test.YtdolabkagkdfaaaPx22
import Derived.Test.YtdolabkagkdfaaaPx23
import Derived.Test.YtdolabkagkdfaaaPx24
namespace Go.Proofs.Ytdolabkagkdfaaa.P
open Go.RowKit Go.Proofs.YtdolabkagkdfaaaW.PrintWords Go.Proofs.YtdolabkagkdfaaaW.PrintLast Go.Proofs.YtdolabkagkdfaaaW.PrintMore
attribute [local go_sem] max2_int min2_int max_two min_two max_three min_three max_four min_four   -- for this text's walks alone
set_option linter.unusedVariables false
set_option linter.unusedSimpArgs false

/-! ### laws_FnExactFirstRails: function 14 (given) -/
/-- The law's course where it holds. -/
def laws_FnExactFirstRails.f (k : Nat) (a0 : Int) : Option Bool := (spec_FirstRails.f k a0).bind fun W => (impl_FirstRails.f k a0).bind fun G => (laws_eqIntSS.f k G.1 W.1).bind fun e => (laws_markIntSS.f k G.1 1).bind fun M => (laws_heldIntSS.f k M.2 1).bind fun q => (if e = true ∧ G.2 = W.2 ∧ 0 ≤ q ∧ q = M.1 then some true else none)
theorem laws_FnExactFirstRails.mono : ∀ a0 k, LeO (laws_FnExactFirstRails.f k a0) (laws_FnExactFirstRails.f (k + 1) a0) := by
  intro a0 k
  unfold laws_FnExactFirstRails.f
  repeat' first
    | (with_reducible exact spec_FirstRails.mono _ _)
    | (with_reducible exact impl_FirstRails.mono _ _)
    | (with_reducible exact laws_eqIntSS.mono _ _ _)
    | (with_reducible exact laws_markIntSS.mono _ _ _)
    | (with_reducible exact laws_heldIntSS.mono _ _ _)
    | (with_reducible exact LeO.refl _)
    | (with_reducible refine LeO.ite ?_ ?_)
    | (with_reducible refine LeO.bind ?_ (fun _ => ?_))
set_option maxHeartbeats 8000000 in
set_option maxRecDepth 100000 in
theorem laws_FnExactFirstRails.calls (k : Nat) (a0 : Int) (w : World) (h : laws_FnExactFirstRails.f k a0 = some true) :
    Calls Try.prog 14 #[.int .i64 a0] w fun e w' => e = .returned (.bool true) ∧ Below w.heap.size w w' := by
  unfold laws_FnExactFirstRails.f at h
  obtain ⟨⟨Wl, b⟩, hW, h⟩ := Option.bind_eq_some_iff.mp h
  obtain ⟨⟨Gl, b'⟩, hG, h⟩ := Option.bind_eq_some_iff.mp h
  obtain ⟨e0, hE, h⟩ := Option.bind_eq_some_iff.mp h
  obtain ⟨⟨m, Ml⟩, hM, h⟩ := Option.bind_eq_some_iff.mp h
  obtain ⟨q, hQ, h⟩ := Option.bind_eq_some_iff.mp h
  have hc : e0 = true ∧ b' = b ∧ 0 ≤ q ∧ q = m := by
    rcases Classical.em (e0 = true ∧ b' = b ∧ 0 ≤ q ∧ q = m) with hc | hc
    · exact hc
    · rw [if_neg hc] at h; cases h
  clear h
  obtain ⟨rfl, rfl, hq0, rfl⟩ := hc
  have dq : decide (q < 0) = false := decide_eq_false (by omega)
  have HB := Aside0.mk (Below.refl w.heap.size w)
  have cW := spec_FirstRails.calls k a0 Wl b' w hW
  have cG := fun W => impl_FirstRails.calls k a0 Gl b' W hG
  have cE := fun A c A' c' W h1 h2 h3 h4 => laws_eqIntSS.calls k A c Gl A' c' Wl true W h1 h2 h3 h4 hE
  have cM := fun P u W h1 h2 => laws_markIntSS.calls k P u Gl 1 q Ml w W h1 h2 hM
  have cQ := fun A c W h1 h2 => laws_heldIntSS.calls k A c Ml 1 q W h1 h2 hQ
  clear hW hG hE hM hQ
  go_enter Try.func14, Try.ntmps14
  go_wp2_with (go_at_call 41; refine cW.mono ?_; clear cW; rintro e w1 ⟨u, rfl, hS1, hb1⟩; obtain ⟨Aw, cw, rfl⟩ := Kd.S_slice hS1; have HW := Aside0.mk hS1; have HB1 := Aside0.mk hb1; clear hS1 hb1)
  have cG1 := cG w1
  go_wp2_with (go_at_call 42; refine cG1.mono ?_; clear cG1; rintro e w2 ⟨u, rfl, hS2, hb2⟩; obtain ⟨Ag, cg, rfl⟩ := Kd.S_slice hS2; have HG := Aside0.mk hS2; have HB2 := Aside0.mk hb2; clear hS2 hb2)
  have HW2 := Aside0.mk (Kd.S_mono (Kd.S_old HW.out HB2.out) (ok' := fun k_ => k_ < w1.heap.size) (fun _ hk => hk.2))
  have HG2 := Aside0.mk (Kd.S_mono (Kd.S_lower (Kd.S_bound HG.out) HB1.out.size) (ok' := fun k_ => w1.heap.size ≤ k_) (fun _ hk => hk.2.1))
  have HBw := Aside0.mk (below_step HB1.out HB2.out)
  clear HW HG HB1 HB2 HB
  have cE1 := cE Ag cg Aw cw w2 (Kd.S_reads' HG2.out).2.2 (Kd.S_reads' HG2.out).2.1 (Kd.S_reads' HW2.out).2.2 (Kd.S_reads' HW2.out).2.1
  go_wp2_with (go_at_call 43; refine cE1.mono ?_; clear cE1; rintro e w3 ⟨rfl, nd, hw3⟩)
  subst hw3
  have cM1 := cM (fun k_ => w1.heap.size ≤ k_) (.slice Ag Gl.length cg) (w2.drewN nd) (pw_below_drewN HBw.out nd) (Kd.S_drewN HG2.out nd)
  go_wp2_with (go_at_call 44; refine cM1.mono ?_; clear cM1; rintro e w3 ⟨rfl, hS3, hb3, hk3⟩; have HG3 := Aside0.mk hS3; have HB3 := Aside0.mk hb3; have HK3 := Aside0.mk hk3; clear hS3 hb3 hk3)
  have HW3 := Aside0.mk (Kd.S_kept (Kd.S_drewN HW2.out nd) HK3.out (fun k_ h1 h2 => absurd h1 (Nat.not_lt.2 h2)))
  have hlen : Ml.length = Gl.length := (Kd.S_reads' HG3.out).1.symm
  have cQ1 := cQ Ag cg w3 (Kd.S_reads' HG3.out).2.2 (by rw [hlen]; exact (Kd.S_reads' HG3.out).2.1)
  rw [hlen] at cQ1
  have HL := Aside0.mk hlen
  clear HW2 HG2 HBw cM HK3 hlen
  go_wp2_with (go_at_call 45; refine cQ1.mono ?_; clear cQ1; rintro e w4 ⟨rfl, nd2, hw4⟩)
  subst hw4
  have cG2 := cG (w3.drewN nd2)
  go_wp2_with (go_at_call 42; refine cG2.mono ?_; clear cG2; rintro e w4 ⟨u, rfl, hS4, hb4⟩; obtain ⟨Ah, ch, rfl⟩ := Kd.S_slice hS4; have HH := Aside0.mk hS4; have HB4 := Aside0.mk hb4; clear hS4 hb4)
  have HW4 := Aside0.mk (Kd.S_below (Kd.S_drewN HW3.out nd2) HB4.out)
  have HG4 := Aside0.mk (Kd.S_below (Kd.S_drewN HG3.out nd2) HB4.out)
  have HB5 := Aside0.mk (below_step (pw_below_drewN HB3.out nd2) HB4.out)
  have cE2 := cE Ah ch Aw cw w4 (Kd.S_reads' HH.out).2.2 (Kd.S_reads' HH.out).2.1 (Kd.S_reads' HW4.out).2.2 (Kd.S_reads' HW4.out).2.1
  clear HW3 HG3 HB3 HB4 cG cE
  go_wp2_with (go_at_call 43; refine cE2.mono ?_; clear cE2; rintro e w5 ⟨rfl, nd3, hw5⟩)
  subst hw5
  have HG5 := Aside0.mk (Kd.S_drewN HG4.out nd3)
  have cQ2 := cQ Ag cg (w4.drewN nd3) (Kd.S_reads' HG5.out).2.2 (by rw [HL.out]; exact (Kd.S_reads' HG5.out).2.1)
  rw [HL.out] at cQ2
  clear HW4 HG4 HH HG5 cQ
  go_wp2_with (go_at_call 45; refine cQ2.mono ?_; clear cQ2; rintro e w6 ⟨rfl, nd4, hw6⟩)
  subst hw6
  go_wp2
  go_ret
  exact ⟨rfl, by repeat (first | exact HB5.out | apply pw_below_drewN)⟩
/-- THE ONE PURE STATEMENT of laws_FnExactFirstRails: yours. -/
def laws_FnExactFirstRails.Pure : Prop := ∀ (a0 : Int), (Lit.int .i64 a0).wf = true → ∃ k, laws_FnExactFirstRails.f k a0 = some true
theorem laws_FnExactFirstRails.walk (P : laws_FnExactFirstRails.Pure) (a0 : Int) (w : World) (w0 : (Lit.int .i64 a0).wf = true) :
    Calls Try.prog 14 #[.int .i64 a0] w fun e w' => e = .returned (.bool true) ∧ Below w.heap.size w w' := by
  obtain ⟨k, h⟩ := P a0 w0
  exact laws_FnExactFirstRails.calls k a0 w h

end Go.Proofs.Ytdolabkagkdfaaa.P
